/- The program's FirstSumOn returns what the reference's returns, for all arguments. No condition. -/
import Derived.Test.YtcebaiopkeaoaaaC3Ages
import Derived.Test.YtcebaiopkeaoaaaC3Base
import Derived.Test.YtcebaiopkeaoaaaC3Conv
import Derived.Test.YtcebaiopkeaoaaaC3Sum
import Derived.Test.YtcebaiopkeaoaaaX0
import Derived.Test.YtcebaiopkeaoaaaX10
import Derived.Test.YtcebaiopkeaoaaaX25
import Derived.Test.YtcebaiopkeaoaaaX26
import Derived.Test.YtcebaiopkeaoaaaX27
import Derived.Test.YtcebaiopkeaoaaaX4
namespace Go.Proofs.Ytcebaiopkeaoaaa.Pure
open Go.RowKit Go.Proofs.Ytcebaiopkeaoaaa.X Go.Proofs.YtcebaiopkeaoaaaW.PrintWords Go.Proofs.YtcebaiopkeaoaaaW.PrintLast
set_option linter.unusedVariables false
set_option linter.unusedSimpArgs false

theorem first_loop (l : List D) (sum : Int) (hl : l.all dateOk = true) (h8 : l.length ≤ 8) (d : Nat) : ∀ (lo hi : Int), hi - lo = d → 0 ≤ lo → (∀ b ∈ l, dy b ≤ lo) → hi ≤ 1095365 →
    ∃ r, Ev (fun k => spec_FirstSumOn.l1 k l sum lo hi) r ∧ Ev (fun k => impl_FirstSumOn.l0 k l sum lo hi) r := by
  induction d using Nat.strongRecOn with
  | _ d ih =>
  intro lo hi hdd h0 hb h1
  by_cases h : lo < hi
  · have hm0 : lo ≤ (lo + hi) / 2 := by omega
    have hm1 : (lo + hi) / 2 < hi := by omega
    have e1 : wrap64 (Int.tdiv (wrap64 (lo + hi)) 2) = (lo + hi) / 2 := by
      rw [w64 (x := lo + hi) (by omega) (by omega), Int.tdiv_eq_ediv_of_nonneg (by omega), w64 (by omega) (by omega)]
    have e2 : wrap64 ((lo + hi) / 2 + 1) = (lo + hi) / 2 + 1 := w64 (by omega) (by omega)
    obtain ⟨ok, hdy⟩ := dateD_ok (n := (lo + hi) / 2) (by omega) (by omega)
    have hbm : ∀ b ∈ l, dy b ≤ dy (dateD ((lo + hi) / 2)) := fun b hb' => by have := hb b hb'; rw [hdy]; omega
    have hsum := ev_biSum l (dateD ((lo + hi) / 2)) hl ok hbm h8
    have hage := ev_agesOn l ((lo + hi) / 2) hl (fun b hb' => by have := hb b hb'; omega) (by omega) h8
    have eag : (l.map fun b => ((lo + hi) / 2 - dy b) / 365) = l.map fun b => ageD b (dateD ((lo + hi) / 2)) := by
      have := ages_eq hl ok hbm
      rw [hdy] at this
      exact this
    rw [eag] at hage
    have htot := ev_total (l.map fun b => ageD b (dateD ((lo + hi) / 2))) (by simpa using h8) (ages_bound hl ok hbm)
    by_cases hge : (l.map fun b => ageD b (dateD ((lo + hi) / 2))).sum ≥ sum
    · obtain ⟨r, hs, hi'⟩ := ih ((lo + hi) / 2 - lo).toNat (by omega) lo ((lo + hi) / 2) (by omega) h0 hb (by omega)
      refine ⟨r, Ev.step (fun k => by rw [spec_FirstSumOn.l1, if_pos h, e1, back_val (by omega) (by omega)]) ?_, Ev.step (fun k => by rw [impl_FirstSumOn.l0, if_pos h, e1]) ?_⟩
      · simp only [Option.bind_some]
        refine Ev.bind hsum ?_
        simp only [if_pos hge]
        exact hs
      · refine Ev.bind hage ?_
        refine Ev.bind htot ?_
        simp only [if_pos hge]
        exact hi'
    · obtain ⟨r, hs, hi'⟩ := ih (hi - ((lo + hi) / 2 + 1)).toNat (by omega) ((lo + hi) / 2 + 1) hi (by omega) (by omega) (fun b hb' => by have := hb b hb'; omega) (by omega)
      refine ⟨r, Ev.step (fun k => by rw [spec_FirstSumOn.l1, if_pos h, e1, e2, back_val (by omega) (by omega)]) ?_, Ev.step (fun k => by rw [impl_FirstSumOn.l0, if_pos h, e1, e2]) ?_⟩
      · simp only [Option.bind_some]
        refine Ev.bind hsum ?_
        simp only [if_neg hge]
        exact hs
      · refine Ev.bind hage ?_
        refine Ev.bind htot ?_
        simp only [if_neg hge]
        exact hi'
  · by_cases hlo : lo ≤ 1095364
    · exact ⟨_, Ev.step (f := fun _ => some (lo / 365, lo % 365 + 1, true)) (fun k => by rw [spec_FirstSumOn.l1, if_neg h, back_val h0 hlo]; rfl) (Ev.now _), Ev.step (fun k => by rw [impl_FirstSumOn.l0, if_neg h, dateAt_eq, back_val h0 hlo]; rfl) (Ev.now _)⟩
    · exact ⟨_, Ev.step (f := fun _ => some (0, 0, false)) (fun k => by rw [spec_FirstSumOn.l1, if_neg h, back_none (by omega)]; rfl) (Ev.now _), Ev.step (fun k => by rw [impl_FirstSumOn.l0, if_neg h, dateAt_eq, back_none (by omega)]; rfl) (Ev.now _)⟩
theorem from_loop (l : List D) (sum : Int) (hl : l.all dateOk = true) (hn : l.length ≤ 8) (d : Nat) : ∀ (i : Nat) (m : D), l.length - i = d → i ≤ l.length → dateOk m = true →
    ∃ f : D, dateOk f = true ∧ (∀ x : Int, dy f ≤ x ↔ dy m ≤ x ∧ ∀ b ∈ l.drop i, dy b ≤ x) ∧ ∀ r, Ev (fun k => spec_FirstSumOn.l1 k l sum (dy f) 1095365) r → Ev (fun k => spec_FirstSumOn.l0 k l sum l (l.length : Int) (i : Int) m.f0 m.f1) r := by
  induction d with
  | zero =>
    intro i m hd hi hm
    rw [List.drop_of_length_le (by omega)]
    refine ⟨m, hm, by simp, fun r hr => Ev.step (fun k => ?_) hr⟩
    rw [spec_FirstSumOn.l0, if_neg (by omega), biDays_ok hm]
    rfl
  | succ d ih =>
    intro i m hd hi hm
    have hlt : i < l.length := by omega
    have hb := all_at l i hlt hl
    by_cases hc : dy (rd_T33 l (i : Int)) > dy m
    · obtain ⟨f, hf, hx, hk⟩ := ih (i + 1) (rd_T33 l (i : Int)) (by omega) (by omega) hb
      refine ⟨f, hf, fun x => ?_, fun r hr => Ev.step (fun k => ?_) (hk r hr)⟩
      · rw [drop_at l i hlt, hx x]
        simp only [List.mem_cons, forall_eq_or_imp]
        exact ⟨fun ⟨p, q⟩ => ⟨by omega, p, q⟩, fun ⟨p, q, s⟩ => ⟨q, s⟩⟩
      · rw [spec_FirstSumOn.l0, if_pos (by omega), if_pos (by omega), if_pos (by omega), biDays_ok hb, biDays_ok hm]
        simp only [Option.bind_some]
        rw [if_pos hc, w_succ i l.length hlt (by omega)]
    · obtain ⟨f, hf, hx, hk⟩ := ih (i + 1) m (by omega) (by omega) hm
      refine ⟨f, hf, fun x => ?_, fun r hr => Ev.step (fun k => ?_) (hk r hr)⟩
      · rw [drop_at l i hlt, hx x]
        simp only [List.mem_cons, forall_eq_or_imp]
        exact ⟨fun ⟨p, q⟩ => ⟨p, by omega, q⟩, fun ⟨p, q, s⟩ => ⟨p, s⟩⟩
      · rw [spec_FirstSumOn.l0, if_pos (by omega), if_pos (by omega), if_pos (by omega), biDays_ok hb, biDays_ok hm]
        simp only [Option.bind_some]
        rw [if_neg hc, w_succ i l.length hlt (by omega)]
theorem first_both (l : List D) (sum : Int) (hn : l.length ≤ 1048576) : ∃ r, Ev (fun k => spec_FirstSumOn.f k l sum) r ∧ Ev (fun k => impl_FirstSumOn.f k l sum) r := by
  have no : ∃ r, Ev (fun k => spec_FirstSumOn.j0 k l sum true) r ∧ Ev (fun k => impl_FirstSumOn.j0 k l sum true) r :=
    ⟨(0, 0, false), Ev.step (f := fun _ => some (0, 0, false)) (fun k => by rw [spec_FirstSumOn.j0, if_pos rfl]) (Ev.now _), Ev.step (f := fun _ => some (0, 0, false)) (fun k => by rw [impl_FirstSumOn.j0, if_pos rfl]) (Ev.now _)⟩
  have hg := ev_biGood l (by omega)
  unfold spec_FirstSumOn.f impl_FirstSumOn.f
  rw [ev_goodI, l1In_val, between_val]
  simp only [Option.bind_some]
  cases hgl : goodL l with
  | false =>
    obtain ⟨r, h1, h2⟩ := no
    rw [hgl] at hg
    refine ⟨r, Ev.bind hg ?_, ?_⟩
    · simp only [Bool.false_eq_true, if_false]; exact h1
    · simp only [Bool.false_eq_true, if_false]; exact h2
  | true =>
    rw [hgl] at hg
    unfold goodL at hgl
    rw [Bool.and_eq_true, decide_eq_true_iff] at hgl
    by_cases hs : 0 ≤ sum ∧ sum ≤ 10000
    · rw [decide_eq_true hs]
      obtain ⟨lb, hlb, hlx⟩ := ev_lastBirth l hgl.2 (by omega)
      have hl0 : 0 < l.length := by omega
      have h00 : dateOk (rd_T33 l ((0 : Nat) : Int)) = true := all_at l 0 hl0 hgl.2
      obtain ⟨f, hf, hfx, hk⟩ := from_loop l sum hgl.2 hgl.1.2 l.length 0 (rd_T33 l ((0 : Nat) : Int)) (by omega) (by omega) h00
      have hm0 : rd_T33 l ((0 : Nat) : Int) ∈ l := by rw [rdT_at l 0 hl0]; exact List.getElem_mem _
      have hdf := dy_range hf
      have e : lb = dy f := by
        have h1 := (hlx (dy f)).2 ⟨hdf.1, by have := ((hfx (dy f)).1 (Int.le_refl _)).2; simpa using this⟩
        have h2 := (hlx lb).1 (Int.le_refl _)
        have h3 := (hfx lb).2 ⟨h2.2 _ hm0, by simpa using h2.2⟩
        omega
      subst e
      have hb := ((hlx (dy f)).1 (Int.le_refl _)).2
      obtain ⟨r, h1, h2⟩ := first_loop l sum hgl.2 hgl.1.2 (1095365 - dy f).toNat (dy f) 1095365 (by omega) hdf.1 hb (by omega)
      refine ⟨r, Ev.bind hg ?_, ?_⟩
      · simp only [if_true, Bool.not_true]
        refine Ev.step (fun k => by rw [spec_FirstSumOn.j0, if_neg (by simp), if_pos (by omega)]) ?_
        exact hk r h1
      · simp only [if_true, Bool.not_true]
        refine Ev.step (fun k => by rw [impl_FirstSumOn.j0, if_neg (by simp)]) ?_
        exact Ev.bind hlb h2
    · rw [decide_eq_false hs]
      obtain ⟨r, h1, h2⟩ := no
      refine ⟨r, Ev.bind hg ?_, ?_⟩
      · simp only [if_true, Bool.not_false]; exact h1
      · simp only [if_true, Bool.not_false]; exact h2
theorem tail_FirstSumOn (l : List S30) (hs : l.length ≤ 1048576) : Ev (fun k => laws_FnExactFirstSumOn.j0 k l (l.map cv) false) true := by
  refine Ev.step (fun k => by rw [laws_FnExactFirstSumOn.j0, if_neg (by simp)]) ?_
  refine Ev.bind (ev_toDateS l hs) ?_
  refine Ev.bind (ev_eqDateS (l.map cv) (by simp; omega)) ?_
  simp only [if_true]
  exact Ev.now _
theorem FnExactFirstSumOn : laws_FnExactFirstSumOn.Pure := by
  intro l sum hm hy hw _
  refine Ev.rounds ?_
  unfold laws_FnExactFirstSumOn.f
  by_cases hs : l.length ≤ 1048576
  · rw [sz_ok hs]
    obtain ⟨r, h1, h2⟩ := first_both (l.map cv) sum (by simpa using hs)
    simp only [Option.bind_some, if_neg (show ¬ (1048576 - (l.length : Int) < 0) by omega)]
    refine Ev.bind (ev_toDateS l hs) ?_
    refine Ev.bind h1 ?_
    refine Ev.bind (ev_toDateS l hs) ?_
    refine Ev.bind h2 ?_
    simp only [laws_eqDate.f, if_true, Option.bind_some, bne_self_eq_false]
    exact tail_FirstSumOn l hs
  · rw [sz_no hs hm]
    simp only [Option.bind_some, if_pos (show (-1 : Int) < 0 by omega)]
    exact Ev.now _

end Go.Proofs.Ytcebaiopkeaoaaa.Pure
