/- The program's LastBirthday returns what the reference's returns, for all arguments. No condition. -/
import Derived.Test.YtcebaiopkeaoaaaC3Base
import Derived.Test.YtcebaiopkeaoaaaC3Conv
import Derived.Test.YtcebaiopkeaoaaaC3Mark
import Derived.Test.YtcebaiopkeaoaaaC3Who
import Derived.Test.YtcebaiopkeaoaaaX0
import Derived.Test.YtcebaiopkeaoaaaX1
import Derived.Test.YtcebaiopkeaoaaaX10
import Derived.Test.YtcebaiopkeaoaaaX36
import Derived.Test.YtcebaiopkeaoaaaX37
import Derived.Test.YtcebaiopkeaoaaaX38
import Derived.Test.YtcebaiopkeaoaaaX4
namespace Go.Proofs.Ytcebaiopkeaoaaa.Pure
open Go.RowKit Go.Proofs.Ytcebaiopkeaoaaa.X Go.Proofs.YtcebaiopkeaoaaaW.PrintWords Go.Proofs.YtcebaiopkeaoaaaW.PrintLast
set_option linter.unusedVariables false
set_option linter.unusedSimpArgs false

theorem last_loop (l : List D) (on : D) (hl : l.all dateOk = true) (ho : dateOk on = true) (hd : ∀ b ∈ l, dy b ≤ dy on) (h8 : l.length ≤ 8) (d : Nat) : ∀ (i : Nat) (m : Int), l.length - i = d → i ≤ l.length → -1 ≤ m → m ≤ dy on →
    ∃ n : Int, n ≤ dy on ∧ (∀ x : Int, n ≤ x ↔ m ≤ x ∧ ∀ b ∈ l.drop i, (dy on - dy b) / 365 > 0 → dy b + (dy on - dy b) / 365 * 365 ≤ x) ∧ (n = m ∨ ∃ b ∈ l, (dy on - dy b) / 365 > 0 ∧ n = dy b + (dy on - dy b) / 365 * 365) ∧
      Ev (fun k => impl_LastBirthday.l0 k l m l (l.length : Int) (i : Int) on.f0 on.f1) (dayV l n) := by
  have r2 := dy_range ho
  induction d with
  | zero =>
    intro i m hdd hi h0 h1
    rw [List.drop_of_length_le (by omega)]
    refine ⟨m, h1, by simp, .inl rfl, Ev.step (fun k => by rw [impl_LastBirthday.l0, if_neg (by omega)]) ?_⟩
    exact Ev.bind (ev_birthdayOf l m h8) (Ev.now _)
  | succ d ih =>
    intro i m hdd hi h0 h1
    have hlt : i < l.length := by omega
    have hok := all_at l i hlt hl
    have hm : rd_T33 l (i : Int) ∈ l := by rw [rdT_at l i hlt]; exact List.getElem_mem _
    have r1 := dy_range hok
    have hle := hd _ hm
    by_cases hp : (dy on - dy (rd_T33 l (i : Int))) / 365 > 0
    · obtain ⟨n, hn, hx, hor, hk⟩ := ih (i + 1) (mx m (dy (rd_T33 l (i : Int)) + (dy on - dy (rd_T33 l (i : Int))) / 365 * 365)) (by omega) (by omega) (by unfold mx; split <;> omega) (by unfold mx; split <;> omega)
      refine ⟨n, hn, fun x => ?_, ?_, Ev.step (fun k => ?_) hk⟩
      · rw [hx x, drop_at l i hlt]
        simp only [List.mem_cons, forall_eq_or_imp]
        have : mx m (dy (rd_T33 l (i : Int)) + (dy on - dy (rd_T33 l (i : Int))) / 365 * 365) ≤ x ↔ m ≤ x ∧ ((dy on - dy (rd_T33 l (i : Int))) / 365 > 0 → dy (rd_T33 l (i : Int)) + (dy on - dy (rd_T33 l (i : Int))) / 365 * 365 ≤ x) := by
          constructor
          · intro h; unfold mx at h; split at h <;> exact ⟨by omega, fun _ => by omega⟩
          · intro ⟨p, q⟩; have := q hp; unfold mx; split <;> omega
        rw [this]
        exact and_assoc
      · rcases hor with h | h
        · unfold mx at h
          split at h
          all_goals first | exact .inl h | exact .inr ⟨_, hm, hp, h⟩
        · exact .inr h
      · rw [impl_LastBirthday.l0, if_pos (by omega), if_pos (by omega), if_pos (by omega), index_ok ho]
        simp only [Option.bind_some]
        rw [age_ok hok hle (by omega)]
        simp only [Option.bind_some]
        rw [if_pos hp, index_ok hok]
        simp only [Option.bind_some]
        rw [w64 (x := (dy on - dy (rd_T33 l (i : Int))) / 365 * 365) (by omega) (by omega), w64 (x := dy (rd_T33 l (i : Int)) + _) (by omega) (by omega), w_succ i l.length hlt (by omega)]
    · obtain ⟨n, hn, hx, hor, hk⟩ := ih (i + 1) m (by omega) (by omega) h0 h1
      refine ⟨n, hn, fun x => ?_, hor, Ev.step (fun k => ?_) hk⟩
      · rw [hx x, drop_at l i hlt]
        simp only [List.mem_cons, forall_eq_or_imp]
        exact ⟨fun ⟨p, q⟩ => ⟨p, fun h => absurd h hp, q⟩, fun ⟨p, _, q⟩ => ⟨p, q⟩⟩
      · rw [impl_LastBirthday.l0, if_pos (by omega), if_pos (by omega), if_pos (by omega), index_ok ho]
        simp only [Option.bind_some]
        rw [age_ok hok hle (by omega)]
        simp only [Option.bind_some]
        rw [if_neg hp, w_succ i l.length hlt (by omega)]
theorem slast_loop (l : List D) (on : D) (hl : l.all dateOk = true) (ho : dateOk on = true) (h8 : l.length ≤ 8) (n : Int) (hn0 : n ≤ dy on) (hn1 : dy on < n + 365 ∨ n < 0)
    (hno : ∀ m, n < m → m ≤ dy on → 0 ≤ m → dy on < m + 365 → whoFrom (dateD m) l 0 = []) (hyes : 0 ≤ n → whoFrom (dateD n) l 0 ≠ []) (d : Nat) : ∀ by_ : Int, 365 - by_ = d → 0 ≤ by_ → by_ ≤ 365 → n ≤ dy on - by_ ∨ n < 0 →
    Ev (fun k => spec_LastBirthday.l0 k l by_ on.f0 on.f1) (dayV l n) := by
  have r2 := dy_range ho
  induction d with
  | zero =>
    intro y hy h1 h2 h3
    refine Ev.step (f := fun _ => some (0, 0, [], false)) (fun k => by rw [spec_LastBirthday.l0, if_neg (by omega)]) ?_
    unfold dayV
    rw [if_neg (by omega)]
    exact Ev.now _
  | succ d ih =>
    intro y hy h1 h2 h3
    have e1 : wrap64 (dy on - y) = dy on - y := w64 (by omega) (by omega)
    have e2 : wrap64 (y + 1) = y + 1 := w64 (by omega) (by omega)
    refine Ev.step (fun k => by rw [spec_LastBirthday.l0, if_pos (by omega), biDays_ok ho]) ?_
    simp only [Option.bind_some, e1, e2]
    by_cases hin : 0 ≤ dy on - y
    · rw [back_val hin (by omega)]
      simp only [Option.bind_some, if_true]
      have hw := ev_biOf l (dateD (dy on - y)) h8
      refine Ev.bind hw ?_
      by_cases hlt : n < dy on - y
      · rw [hno (dy on - y) hlt (by omega) hin (by omega)]
        simp only [List.length_nil, Int.natCast_zero, gt_iff_lt, Int.lt_irrefl, if_false]
        exact ih (y + 1) (by omega) (by omega) (by omega) (by omega)
      · have hen : n = dy on - y := by omega
        subst hen
        have hne := hyes hin
        have hp : ((whoFrom (dateD (dy on - y)) l 0).length : Int) > 0 := by
          have := List.length_pos_iff.2 hne
          omega
        simp only [if_pos hp]
        refine Ev.bind hw ?_
        unfold dayV
        rw [if_pos (by omega)]
        exact Ev.now _
    · rw [back_none (by omega)]
      simp only [Option.bind_some, Bool.false_eq_true, if_false]
      exact ih (y + 1) (by omega) (by omega) (by omega) (by omega)
theorem dayV_len' (l : List D) (n : Int) (h8 : l.length ≤ 8) : (dayV l n).2.2.1.length ≤ 8 := by
  unfold dayV
  split
  · have := who_len (dateD n) l 0
    simp only
    omega
  · simp
theorem both_LastBirthday (l : List D) (on : D) (hn : l.length ≤ 1048576) : ∃ r, Ev (fun k => spec_LastBirthday.f k l on.f0 on.f1) r ∧ Ev (fun k => impl_LastBirthday.f k l on.f0 on.f1) r ∧ r.2.2.1.length ≤ 8 := by
  have hs := ev_biAll l on (by omega)
  have hi := ev_areBorn l on (by omega)
  unfold spec_LastBirthday.f impl_LastBirthday.f
  cases hb : bornL l on with
  | false =>
    rw [hb] at hs hi
    refine ⟨(0, 0, [], false), Ev.bind hs ?_, Ev.bind hi ?_, by simp⟩
    · simp only [Bool.false_eq_true, if_false]; exact Ev.now _
    · simp only [Bool.false_eq_true, if_false]; exact Ev.now _
  | true =>
    rw [hb] at hs hi
    obtain ⟨h1, h8, hl, ho, hd⟩ := born_parts hb
    have r2 := dy_range ho
    obtain ⟨n, hnl, hx, hor, hk⟩ := last_loop l on hl ho hd h8 l.length 0 (-1) (by omega) (by omega) (by omega) (by omega)
    rw [List.drop_zero] at hx
    have hxn := (hx n).1 (Int.le_refl _)
    have hge : dy on < n + 365 ∨ n < 0 := by
      rcases hor with h | ⟨b, hb', hp, h⟩
      · omega
      · omega
    refine ⟨dayV l n, Ev.bind hs ?_, Ev.bind hi ?_, dayV_len' l n h8⟩
    · simp only [if_true]
      refine slast_loop l on hl ho h8 n hnl hge (fun m hm1 hm2 hm3 hm4 => ?_) (fun hn' hnil => ?_) 365 0 (by omega) (by omega) (by omega) (by omega)
      · rw [who_none l hl hm3 (by omega)]
        intro b hb' ⟨e, hlt⟩
        have h2 := hd b hb'
        have h3 := hxn.2 b hb' (by omega)
        omega
      · rw [who_none l hl hn' (by omega)] at hnil
        rcases hor with h | ⟨b, hb', hp, h⟩
        · omega
        · exact hnil b hb' (by omega)
    · simp only [if_true]
      exact hk
theorem len_LastBirthday (l : List D) (a b : Int) (r : Int × Int × List Int × Bool) (h : Ev (fun k => impl_LastBirthday.f k l a b) r) (h8 : r.2.2.1.length ≤ 8) : r.2.2.1.length ≤ 1048576 := by omega
theorem FnExactLastBirthday : laws_FnExactLastBirthday.Pure := by
  intro l a b hm hy hw _ _
  refine Ev.rounds ?_
  unfold laws_FnExactLastBirthday.f
  by_cases hs : l.length ≤ 1048576
  · have hl : (l.map cv).length ≤ 1048576 := by simpa using hs
    obtain ⟨r, h1, h2, h8⟩ := both_LastBirthday (l.map cv) ⟨a, b⟩ hl
    rw [sz_ok hs]
    simp only [Option.bind_some, if_neg (show ¬ (1048576 - (l.length : Int) < 0) by omega)]
    refine Ev.bind (ev_toDateS l hs) ?_
    simp only [laws_toDate.f, Option.bind_some]
    refine Ev.bind h1 ?_
    refine Ev.bind (ev_toDateS l hs) ?_
    refine Ev.bind h2 ?_
    simp only [laws_eqDate.f, if_true, Option.bind_some]
    refine Ev.bind (ev_eqIntS _ (by omega)) ?_
    simp only [if_true, bne_self_eq_false]
    refine Ev.step (fun k => by rw [laws_FnExactLastBirthday.j0, if_neg (by simp)]) ?_
    refine Ev.bind (ev_toDateS l hs) ?_
    refine Ev.bind (ev_eqDateS (l.map cv) (by omega)) ?_
    simp only [if_true]
    obtain ⟨q, l', hmk, hr⟩ := ev_markDateS (l.map cv) hl
    refine Ev.bind hmk ?_
    simp only [if_neg (show ¬ q < 0 by omega), laws_eqDate.f, if_true, Option.bind_some]
    refine Ev.bind (ev_eqIntS _ (by omega)) ?_
    simp only [if_true, bne_self_eq_false]
    refine Ev.step (fun k => by rw [laws_FnExactLastBirthday.j1, if_neg (by simp)]) ?_
    obtain ⟨x', hx, hxl, hxr⟩ := ev_markIntS r.2.2.1 (by omega)
    refine Ev.bind hx ?_
    have hheld := ev_heldIntS x' (by omega) (by rw [hxl]; exact hxr)
    rw [hxl] at hheld
    refine Ev.bind hheld ?_
    simp only [if_neg (show ¬ (1 + (r.2.2.1.length : Int) < 0) by omega), if_true]
    refine Ev.bind (ev_toDateS l hs) ?_
    simp only [laws_toDate.f, Option.bind_some]
    refine Ev.bind h2 ?_
    simp only [laws_eqDate.f, if_true, Option.bind_some]
    refine Ev.bind (ev_eqIntS _ (by omega)) ?_
    simp only [if_true, bne_self_eq_false]
    refine Ev.step (fun k => by rw [laws_FnExactLastBirthday.j2, if_neg (by simp)]) ?_
    refine Ev.bind hheld ?_
    simp only [if_neg (show ¬ (1 + (r.2.2.1.length : Int) < 0) by omega), if_true]
    exact Ev.now _
  · rw [sz_no hs hm]
    simp only [Option.bind_some, if_pos (show (-1 : Int) < 0 by omega)]
    exact Ev.now _

end Go.Proofs.Ytcebaiopkeaoaaa.Pure
