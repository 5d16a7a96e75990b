/- The program's LaterSet returns what the reference's returns, for all arguments. No condition. -/
import Derived.Test.YtdfgdhbaeaijbaaC4Base
import Derived.Test.YtdfgdhbaeaijbaaC4Conv
import Derived.Test.YtdfgdhbaeaijbaaC4Mark
import Derived.Test.YtdfgdhbaeaijbaaX12
import Derived.Test.YtdfgdhbaeaijbaaX13
import Derived.Test.YtdfgdhbaeaijbaaX14
import Derived.Test.YtdfgdhbaeaijbaaX16
namespace Go.Proofs.Ytdfgdhbaeaijbaa.Pure
open Go.RowKit Go.Proofs.Ytdfgdhbaeaijbaa.X Go.Proofs.YtdfgdhbaeaijbaaW.PrintWords Go.Proofs.YtdfgdhbaeaijbaaW.PrintLast
set_option linter.unusedVariables false
set_option linter.unusedSimpArgs false

theorem spec_agIn_loop (l : List Int) (y : Int) (h4 : l.length ≤ 4) (d : Nat) : ∀ (i : Nat) (acc : List Int), l.length - i = d → i ≤ l.length → acc.length = i →
    Ev (fun k => spec_agIn.l0 k y acc l (l.length : Int) (i : Int)) (acc ++ (l.drop i).map fun x => wrap64 (x + y)) := by
  induction d with
  | zero =>
    intro i acc hd hi ha
    rw [List.drop_of_length_le (by omega)]
    exact Ev.step (f := fun _ => some (acc ++ [])) (fun k => by rw [spec_agIn.l0, if_neg (by omega), List.append_nil]) (Ev.now _)
  | succ d ih =>
    intro i acc hd hi ha
    have hlt : i < l.length := by omega
    have hs := ih (i + 1) (acc ++ [wrap64 (rd l (i : Int) + y)]) (by omega) (by omega) (by simp [ha])
    rw [drop_rd l i hlt, List.map_cons]
    rw [List.append_assoc, List.singleton_append] at hs
    refine Ev.step (fun k => ?_) hs
    rw [spec_agIn.l0, if_pos (by omega), if_pos (by omega), if_pos (by omega), if_pos (by omega), w_succ i l.length hlt (by omega)]
theorem impl_inYears_loop (l : List Int) (y : Int) (h4 : l.length ≤ 4) (d : Nat) : ∀ (i : Nat) (acc : List Int), l.length - i = d → i ≤ l.length → acc.length = i →
    Ev (fun k => impl_inYears.l0 k y acc l (l.length : Int) (i : Int)) (acc ++ (l.drop i).map fun x => wrap64 (x + y)) := by
  induction d with
  | zero =>
    intro i acc hd hi ha
    rw [List.drop_of_length_le (by omega)]
    exact Ev.step (f := fun _ => some (acc ++ [])) (fun k => by rw [impl_inYears.l0, if_neg (by omega), List.append_nil]) (Ev.now _)
  | succ d ih =>
    intro i acc hd hi ha
    have hlt : i < l.length := by omega
    have hs := ih (i + 1) (acc ++ [wrap64 (rd l (i : Int) + y)]) (by omega) (by omega) (by simp [ha])
    rw [drop_rd l i hlt, List.map_cons]
    rw [List.append_assoc, List.singleton_append] at hs
    refine Ev.step (fun k => ?_) hs
    rw [impl_inYears.l0, if_pos (by omega), if_pos (by omega), if_pos (by omega), if_pos (by omega), w_succ i l.length hlt (by omega)]
theorem both_LaterSet (l : List Int) (y : Int) (hn : l.length ≤ 9223372036854775807) : ∃ r, Ev (fun k => spec_LaterSet.f k l y) r ∧ Ev (fun k => impl_LaterSet.f k l y) r ∧ r.1.length ≤ 4 := by
  obtain ⟨b, h1, h2, hiff⟩ := ev_set l hn
  have no : ∃ r, Ev (fun k => spec_LaterSet.j0 k l y true) r ∧ Ev (fun k => impl_LaterSet.j0 k l y true) r ∧ r.1.length ≤ 4 :=
    ⟨([], false), Ev.step (f := fun _ => some ([], false)) (fun k => by rw [spec_LaterSet.j0, if_pos rfl]) (Ev.now _), Ev.step (f := fun _ => some ([], false)) (fun k => by rw [impl_LaterSet.j0, if_pos rfl]) (Ev.now _), by simp⟩
  unfold spec_LaterSet.f impl_LaterSet.f
  rw [l1In_val, between_val]
  simp only [Option.bind_some]
  cases b with
  | false =>
    obtain ⟨r, g1, g2, g3⟩ := no
    refine ⟨r, Ev.bind h1 ?_, Ev.bind h2 ?_, g3⟩
    · simp only [Bool.false_eq_true, if_false]; exact g1
    · simp only [Bool.false_eq_true, if_false]; exact g2
  | true =>
    have h4 := (hiff.1 rfl).1.2
    by_cases hy : -20 ≤ y ∧ y ≤ 20
    · rw [decide_eq_true hy]
      have a1 := spec_agIn_loop l y h4 l.length 0 [] (by omega) (by omega) rfl
      have a2 := impl_inYears_loop l y h4 l.length 0 [] (by omega) (by omega) rfl
      rw [List.drop_zero, List.nil_append] at a1 a2
      have hl : (l.map fun x => wrap64 (x + y)).length ≤ 4 := by simpa using h4
      obtain ⟨c, s1, s2, _⟩ := ev_set (l.map fun x => wrap64 (x + y)) (by omega)
      cases c with
      | true =>
        refine ⟨(l.map fun x => wrap64 (x + y), true), Ev.bind h1 ?_, Ev.bind h2 ?_, hl⟩
        · simp only [if_true, Bool.not_true]
          refine Ev.step (fun k => by rw [spec_LaterSet.j0, if_neg (by simp)]) ?_
          refine Ev.bind (a := l.map fun x => wrap64 (x + y)) (by unfold spec_agIn.f; exact a1) ?_
          refine Ev.bind s1 ?_
          simp only [if_true]
          exact Ev.now _
        · simp only [if_true, Bool.not_true]
          refine Ev.step (fun k => by rw [impl_LaterSet.j0, if_neg (by simp)]) ?_
          refine Ev.bind (a := l.map fun x => wrap64 (x + y)) (by unfold impl_inYears.f; exact a2) ?_
          refine Ev.bind s2 ?_
          simp only [if_true]
          exact Ev.now _
      | false =>
        refine ⟨([], false), Ev.bind h1 ?_, Ev.bind h2 ?_, by simp⟩
        · simp only [if_true, Bool.not_true]
          refine Ev.step (fun k => by rw [spec_LaterSet.j0, if_neg (by simp)]) ?_
          refine Ev.bind (a := l.map fun x => wrap64 (x + y)) (by unfold spec_agIn.f; exact a1) ?_
          refine Ev.bind s1 ?_
          simp only [Bool.false_eq_true, if_false]
          exact Ev.now _
        · simp only [if_true, Bool.not_true]
          refine Ev.step (fun k => by rw [impl_LaterSet.j0, if_neg (by simp)]) ?_
          refine Ev.bind (a := l.map fun x => wrap64 (x + y)) (by unfold impl_inYears.f; exact a2) ?_
          refine Ev.bind s2 ?_
          simp only [Bool.false_eq_true, if_false]
          exact Ev.now _
    · rw [decide_eq_false hy]
      obtain ⟨r, g1, g2, g3⟩ := no
      refine ⟨r, Ev.bind h1 ?_, Ev.bind h2 ?_, g3⟩
      · simp only [if_true, Bool.not_false]; exact g1
      · simp only [if_true, Bool.not_false]; exact g2
theorem FnExactLaterSet : laws_FnExactLaterSet.Pure := by
  intro l y hm hy hw _
  refine Ev.rounds ?_
  unfold laws_FnExactLaterSet.f
  by_cases hs : l.length ≤ 1048576
  · simp only [if_neg (show ¬ ((l.length : Int) > 1048576) by omega)]
    obtain ⟨⟨r1, r2⟩, h1, h2, h8⟩ := both_LaterSet l y (by omega)
    simp only at h8
    refine Ev.bind (ev_toIntS l hs) ?_
    refine Ev.bind h1 ?_
    refine Ev.bind (ev_toIntS l hs) ?_
    refine Ev.bind h2 ?_
    refine Ev.bind (ev_eqIntS r1 (by omega)) ?_
    simp only [if_true, bne_self_eq_false]
    refine Ev.step (fun k => by rw [laws_FnExactLaterSet.j0, if_neg (by simp)]) ?_
    refine Ev.bind (ev_toIntS l hs) ?_
    refine Ev.bind (ev_eqIntS l (by omega)) ?_
    simp only [if_true]
    obtain ⟨l', hmk, _, _⟩ := ev_markIntS l hs
    refine Ev.bind hmk ?_
    simp only [if_neg (show ¬ (1 + (l.length : Int) < 0) by omega)]
    refine Ev.bind (ev_eqIntS r1 (by omega)) ?_
    simp only [if_true, bne_self_eq_false]
    refine Ev.step (fun k => by rw [laws_FnExactLaterSet.j1, if_neg (by simp)]) ?_
    obtain ⟨x', hx, hxl, hxr⟩ := ev_markIntS r1 (by omega)
    refine Ev.bind hx ?_
    have hheld := ev_heldIntS x' (by omega) (by rw [hxl]; exact hxr)
    rw [hxl] at hheld
    refine Ev.bind hheld ?_
    simp only [if_neg (show ¬ (1 + (r1.length : Int) < 0) by omega), if_true]
    refine Ev.bind (ev_toIntS l hs) ?_
    refine Ev.bind h2 ?_
    refine Ev.bind (ev_eqIntS r1 (by omega)) ?_
    simp only [if_true, bne_self_eq_false]
    refine Ev.step (fun k => by rw [laws_FnExactLaterSet.j2, if_neg (by simp)]) ?_
    refine Ev.bind hheld ?_
    simp only [if_neg (show ¬ (1 + (r1.length : Int) < 0) by omega), if_true]
    exact Ev.now _
  · simp only [if_pos (show (l.length : Int) > 1048576 by omega)]
    exact Ev.now _

end Go.Proofs.Ytdfgdhbaeaijbaa.Pure
