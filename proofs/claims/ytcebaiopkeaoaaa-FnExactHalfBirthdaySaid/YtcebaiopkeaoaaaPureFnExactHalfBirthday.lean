/- The program's HalfBirthday returns what the reference's returns, for all arguments. No condition. -/
import Derived.Test.YtcebaiopkeaoaaaC3Base
import Derived.Test.YtcebaiopkeaoaaaX1
import Derived.Test.YtcebaiopkeaoaaaX10
import Derived.Test.YtcebaiopkeaoaaaX3
import Derived.Test.YtcebaiopkeaoaaaX6
import Derived.Test.YtcebaiopkeaoaaaX9
namespace Go.Proofs.Ytcebaiopkeaoaaa.Pure
open Go.RowKit Go.Proofs.Ytcebaiopkeaoaaa.X Go.Proofs.YtcebaiopkeaoaaaW.PrintWords Go.Proofs.YtcebaiopkeaoaaaW.PrintLast
set_option linter.unusedVariables false
set_option linter.unusedSimpArgs false

theorem born_one'' (b on : D) : bornL [b] on = (dateOk b && (dateOk on && decide (dy b ≤ dy on))) := by simp [bornL, goodL]
theorem half_same (k : Nat) : ∀ (x a b : Int), impl_HalfBirthday.l0 k x a b = spec_HalfBirthday.l0 k x a b := by
  induction k with
  | zero => intro x a b; rfl
  | succ k ih =>
    intro x a b
    rw [impl_HalfBirthday.l0, spec_HalfBirthday.l0]
    simp only [ih]
    rfl
theorem half_loop (on : D) (ho : dateOk on = true) (d : Nat) : ∀ x : Int, 0 ≤ x → x ≤ 1096000 → dy on - x < 365 * d → ∃ r, Ev (fun k => spec_HalfBirthday.l0 k x on.f0 on.f1) r := by
  have hd := dy_range ho
  have back : ∀ x : Int, dy on < x → ∃ r, Ev (fun k => spec_HalfBirthday.l0 k x on.f0 on.f1) r := by
    intro x hx
    by_cases h : 0 ≤ x ∧ x ≤ 1095364
    · refine ⟨_, Ev.step (f := fun _ => some (x / 365, x % 365 + 1, true)) (fun k => ?_) (Ev.now _)⟩
      rw [spec_HalfBirthday.l0, biDays_ok ho]
      simp only [Option.bind_some]
      rw [if_neg (by omega), back_val h.1 h.2]
      rfl
    · refine ⟨_, Ev.step (f := fun _ => some (0, 0, false)) (fun k => ?_) (Ev.now _)⟩
      rw [spec_HalfBirthday.l0, biDays_ok ho]
      simp only [Option.bind_some]
      rw [if_neg (by omega), back_none h]
      rfl
  induction d with
  | zero => intro x h0 h1 h2; exact back x (by omega)
  | succ d ih =>
    intro x h0 h1 h2
    by_cases h : dy on < x
    · exact back x h
    · obtain ⟨r, hr⟩ := ih (x + 365) (by omega) (by omega) (by omega)
      refine ⟨r, Ev.step (fun k => ?_) hr⟩
      rw [spec_HalfBirthday.l0, biDays_ok ho]
      simp only [Option.bind_some]
      rw [if_pos (by omega), w64 (by omega) (by omega)]
theorem half_both (b on : D) : ∃ r, Ev (fun k => spec_HalfBirthday.f k b.f0 b.f1 on.f0 on.f1) r ∧ Ev (fun k => impl_HalfBirthday.f k b.f0 b.f1 on.f0 on.f1) r := by
  have hi := ev_areBorn [b] on (by simp)
  cases h : bornL [b] on with
  | false =>
    refine ⟨(0, 0, false), ?_, ?_⟩
    · unfold spec_HalfBirthday.f
      have e : spec_biBorn.f b.f0 b.f1 on.f0 on.f1 = some false := by
        rw [born_one''] at h
        cases hb : dateOk b with
        | true => rw [born_val hb]; rw [hb, Bool.true_and] at h; rw [h]
        | false =>
          unfold spec_biBorn.f
          rw [biDate_val]
          have hb' : dateOk ⟨b.f0, b.f1⟩ = false := hb
          rw [hb']
          simp
      rw [e]
      simp only [Option.bind_some, Bool.false_eq_true, if_false]
      exact Ev.now _
    · unfold impl_HalfBirthday.f
      rw [h] at hi
      refine Ev.bind hi ?_
      simp only [Bool.false_eq_true, if_false]
      exact Ev.now _
  | true =>
    rw [h] at hi
    rw [born_one''] at h
    simp only [Bool.and_eq_true, decide_eq_true_iff] at h
    have h1 := dy_range h.1
    have h2 := dy_range h.2.1
    obtain ⟨r, hr⟩ := half_loop on h.2.1 3100 (dy b + 182) (by omega) (by omega) (by omega)
    refine ⟨r, ?_, ?_⟩
    · unfold spec_HalfBirthday.f
      rw [born_val h.1, h.2.1, decide_eq_true h.2.2, biDays_ok h.1]
      simp only [Option.bind_some, Bool.and_self, if_true]
      rw [w64 (by omega) (by omega)]
      exact hr
    · unfold impl_HalfBirthday.f
      refine Ev.bind hi ?_
      rw [index_ok h.1]
      simp only [Option.bind_some, if_true]
      rw [w64 (by omega) (by omega)]
      exact Ev.congr (fun k => half_same k _ _ _) hr
theorem FnExactHalfBirthday : laws_FnExactHalfBirthday.Pure := by
  intro a b c d _ _ _ _
  refine Ev.rounds ?_
  unfold laws_FnExactHalfBirthday.f
  simp only [laws_toDate.f, Option.bind_some]
  obtain ⟨r, h1, h2⟩ := half_both ⟨a, b⟩ ⟨c, d⟩
  refine Ev.bind h1 ?_
  refine Ev.bind h2 ?_
  simp only [laws_eqDate.f, if_true, Option.bind_some, bne_self_eq_false, Bool.false_eq_true, if_false]
  exact Ev.now _

end Go.Proofs.Ytcebaiopkeaoaaa.Pure
