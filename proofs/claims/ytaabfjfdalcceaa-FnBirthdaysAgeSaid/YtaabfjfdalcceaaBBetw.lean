/- Chapter 3, plain: birthdays between days. No condition beyond those typed at each lemma. -/
import Derived.Test.YtaabfjfdalcceaaC3Ages
import Derived.Test.YtaabfjfdalcceaaC3Base
import Derived.Test.YtaabfjfdalcceaaC3Sum
import Derived.Test.YtaabfjfdalcceaaE0
import Derived.Test.YtaabfjfdalcceaaE10
import Derived.Test.YtaabfjfdalcceaaE13
import Derived.Test.YtaabfjfdalcceaaE4
namespace Go.Proofs.Ytaabfjfdalcceaa.Pure
open Go.RowKit Go.Proofs.Ytaabfjfdalcceaa.E Go.Proofs.YtaabfjfdalcceaaW.PrintWords Go.Proofs.YtaabfjfdalcceaaW.PrintLast
set_option linter.unusedVariables false
set_option linter.unusedSimpArgs false

def betweenV (l : List D) (f t : D) : Int × Bool := if (bornL l f && (dateOk t && decide (dy f ≤ dy t))) = true then ((l.map fun b => ageD b t).sum - (l.map fun b => ageD b f).sum, true) else (0, false)
theorem sum_sub (l : List D) (g h : D → Int) : (l.map fun b => g b - h b).sum = (l.map g).sum - (l.map h).sum := by
  induction l with
  | nil => rfl
  | cons b l ih => simp only [List.map_cons, List.sum_cons, ih]; omega
theorem between_loop (l : List D) (f t : D) (hl : l.all dateOk = true) (hf : dateOk f = true) (ht : dateOk t = true) (hd : ∀ b ∈ l, dy b ≤ dy f) (hft : dy f ≤ dy t) (h8 : l.length ≤ 8) (d : Nat) : ∀ (i : Nat) (s : Int), l.length - i = d → i ≤ l.length → -10000 * i ≤ s → s ≤ 10000 * i →
    Ev (fun k => spec_BirthdaysBetween.l0 k s l (l.length : Int) (i : Int) f.f0 f.f1 t.f0 t.f1) (s + ((l.drop i).map (fun b => ageD b t - ageD b f)).sum, true) := by
  induction d with
  | zero =>
    intro i s hd hi h0 h1
    rw [List.drop_of_length_le (by omega)]
    exact Ev.step (f := fun _ => some (s + 0, true)) (fun k => by rw [spec_BirthdaysBetween.l0, if_neg (by omega), Int.add_zero]) (Ev.now _)
  | succ d ih =>
    intro i s hdd hi h0 h1
    have hlt : i < l.length := by omega
    have hok := all_at l i hlt hl
    have hm : rd_T26 l (i : Int) ∈ l := by rw [rdT_at l i hlt]; exact List.getElem_mem _
    have hb := ageD_range hok hf (hd _ hm)
    have hc := ageD_range hok ht (by have := hd _ hm; omega)
    have hs := ih (i + 1) (s + (ageD (rd_T26 l (i : Int)) t - ageD (rd_T26 l (i : Int)) f)) (by omega) (by omega) (by omega) (by omega)
    rw [drop_at l i hlt, List.map_cons, List.sum_cons, ← Int.add_assoc]
    refine Ev.step (fun k => ?_) hs
    rw [spec_BirthdaysBetween.l0, if_pos (by omega), if_pos (by omega), if_pos (by omega), biAge_ok hok ht, biAge_ok hok hf]
    simp only [Option.bind_some]
    rw [w64 (x := ageD (rd_T26 l (i : Int)) t - ageD (rd_T26 l (i : Int)) f) (by omega) (by omega), w64 (by omega) (by omega), w_succ i l.length hlt (by omega)]
theorem ev_specBetween (l : List D) (f t : D) (hn : l.length ≤ 1048576) : Ev (fun k => spec_BirthdaysBetween.f k l f.f0 f.f1 t.f0 t.f1) (betweenV l f t) := by
  unfold spec_BirthdaysBetween.f
  refine Ev.bind (ev_biAll l f (by omega)) ?_
  unfold betweenV
  cases hb : bornL l f with
  | false =>
    simp only [Bool.false_eq_true, if_false, Bool.false_and]
    exact Ev.step (f := fun _ => some (0, false)) (fun k => by rw [spec_BirthdaysBetween.j0, if_pos rfl]) (Ev.now _)
  | true =>
    obtain ⟨h1, h8, hl, hf, hd⟩ := born_parts hb
    simp only [if_true, Bool.true_and]
    rw [biDate_val]
    simp only [Option.bind_some]
    have ht' : dateOk ⟨t.f0, t.f1⟩ = dateOk t := rfl
    rw [ht']
    cases ht : dateOk t with
    | false =>
      simp only [Bool.false_eq_true, if_false, Bool.false_and]
      exact Ev.step (f := fun _ => some (0, false)) (fun k => by rw [spec_BirthdaysBetween.j0, if_pos rfl]) (Ev.now _)
    | true =>
      simp only [if_true, Bool.true_and]
      rw [biDays_ok ht, biDays_ok hf]
      simp only [Option.bind_some]
      by_cases hft : dy f ≤ dy t
      · rw [decide_eq_true hft, decide_eq_false (by omega)]
        simp only [if_true]
        refine Ev.step (fun k => by rw [spec_BirthdaysBetween.j0, if_neg (by simp)]) ?_
        have := between_loop l f t hl hf ht hd hft h8 l.length 0 0 (by omega) (by omega) (by omega) (by omega)
        rw [List.drop_zero, sum_sub, Int.zero_add] at this
        exact this
      · rw [decide_eq_false hft, decide_eq_true (by omega)]
        simp only [Bool.false_eq_true, if_false]
        exact Ev.step (f := fun _ => some (0, false)) (fun k => by rw [spec_BirthdaysBetween.j0, if_pos rfl]) (Ev.now _)
theorem sum_range (xs : List Int) (hx : ∀ x ∈ xs, 0 ≤ x ∧ x ≤ 10000) : 0 ≤ xs.sum ∧ xs.sum ≤ 10000 * xs.length := by
  induction xs with
  | nil => simp
  | cons x xs ih =>
    have h1 := ih fun y hy => hx y (List.mem_cons_of_mem _ hy)
    have h2 := hx x (List.mem_cons_self ..)
    simp only [List.sum_cons, List.length_cons]
    omega
theorem ev_implBetween (l : List D) (f t : D) (hn : l.length ≤ 1048576) : Ev (fun k => impl_BirthdaysBetween.f k l f.f0 f.f1 t.f0 t.f1) (betweenV l f t) := by
  unfold impl_BirthdaysBetween.f
  refine Ev.bind (ev_areBorn l f (by omega)) ?_
  unfold betweenV
  cases hb : bornL l f with
  | false =>
    simp only [Bool.false_eq_true, if_false, Bool.false_and]
    exact Ev.step (f := fun _ => some (0, false)) (fun k => by rw [impl_BirthdaysBetween.j0, if_pos rfl]) (Ev.now _)
  | true =>
    obtain ⟨h1, h8, hl, hf, hd⟩ := born_parts hb
    simp only [if_true, Bool.true_and]
    rw [isDate_val]
    simp only [Option.bind_some]
    have ht' : dateOk ⟨t.f0, t.f1⟩ = dateOk t := rfl
    rw [ht']
    cases ht : dateOk t with
    | false =>
      simp only [Bool.false_eq_true, if_false, Bool.false_and]
      exact Ev.step (f := fun _ => some (0, false)) (fun k => by rw [impl_BirthdaysBetween.j0, if_pos rfl]) (Ev.now _)
    | true =>
      simp only [if_true, Bool.true_and]
      rw [index_ok ht, index_ok hf]
      simp only [Option.bind_some]
      by_cases hft : dy f ≤ dy t
      · rw [decide_eq_true hft, decide_eq_false (by omega)]
        simp only [if_true]
        have hd' : ∀ b ∈ l, dy b ≤ dy t := fun b hb => by have := hd b hb; omega
        have r1 := dy_range ht
        have b1 := sum_range _ (ages_bound hl ht hd')
        have b2 := sum_range _ (ages_bound hl hf hd)
        rw [List.length_map] at b1 b2
        refine Ev.step (fun k => by rw [impl_BirthdaysBetween.j0, if_neg (by simp), index_ok ht, index_ok hf]) ?_
        simp only [Option.bind_some]
        refine Ev.bind (ev_agesOn l (dy t) hl hd' (by omega) h8) ?_
        rw [ages_eq hl ht hd']
        refine Ev.bind (ev_total _ (by simpa using h8) (ages_bound hl ht hd')) ?_
        refine Ev.bind (ev_agesOn l (dy f) hl hd (by omega) h8) ?_
        rw [ages_eq hl hf hd]
        refine Ev.bind (ev_total _ (by simpa using h8) (ages_bound hl hf hd)) ?_
        rw [w64 (by omega) (by omega)]
        exact Ev.now _
      · rw [decide_eq_false hft, decide_eq_true (by omega)]
        simp only [Bool.false_eq_true, if_false]
        exact Ev.step (f := fun _ => some (0, false)) (fun k => by rw [impl_BirthdaysBetween.j0, if_pos rfl]) (Ev.now _)

end Go.Proofs.Ytaabfjfdalcceaa.Pure
