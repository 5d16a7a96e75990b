/- Chapter 3, plain: the last birthday. No condition beyond those typed at each lemma. -/
import Derived.Test.YtaabfjfdalcceaaC3Base
import Derived.Test.YtaabfjfdalcceaaC3Who
import Derived.Test.YtaabfjfdalcceaaE0
import Derived.Test.YtaabfjfdalcceaaE4
import Derived.Test.YtaabfjfdalcceaaE7
import Derived.Test.YtaabfjfdalcceaaE8
namespace Go.Proofs.Ytaabfjfdalcceaa.Pure
open Go.RowKit Go.Proofs.Ytaabfjfdalcceaa.E Go.Proofs.YtaabfjfdalcceaaW.PrintWords Go.Proofs.YtaabfjfdalcceaaW.PrintLast
set_option linter.unusedVariables false
set_option linter.unusedSimpArgs false

theorem last_loop (l : List D) (on : D) (hl : l.all dateOk = true) (ho : dateOk on = true) (hd : ∀ b ∈ l, dy b ≤ dy on) (h8 : l.length ≤ 8) (d : Nat) : ∀ (i : Nat) (m : Int), l.length - i = d → i ≤ l.length → -1 ≤ m → m ≤ dy on →
    ∃ n : Int, n ≤ dy on ∧ (∀ x : Int, n ≤ x ↔ m ≤ x ∧ ∀ b ∈ l.drop i, (dy on - dy b) / 365 > 0 → dy b + (dy on - dy b) / 365 * 365 ≤ x) ∧ (n = m ∨ ∃ b ∈ l, (dy on - dy b) / 365 > 0 ∧ n = dy b + (dy on - dy b) / 365 * 365) ∧
      Ev (fun k => impl_LastBirthday.l0 k l m l (l.length : Int) (i : Int) on.f0 on.f1) (dayV l n) := by
  have r2 := dy_range ho
  induction d with
  | zero =>
    intro i m hdd hi h0 h1
    rw [List.drop_of_length_le (by omega)]
    refine ⟨m, h1, by simp, .inl rfl, Ev.step (fun k => by rw [impl_LastBirthday.l0, if_neg (by omega)]) ?_⟩
    exact Ev.bind (ev_birthdayOf l m h8) (Ev.now _)
  | succ d ih =>
    intro i m hdd hi h0 h1
    have hlt : i < l.length := by omega
    have hok := all_at l i hlt hl
    have hm : rd_T26 l (i : Int) ∈ l := by rw [rdT_at l i hlt]; exact List.getElem_mem _
    have r1 := dy_range hok
    have hle := hd _ hm
    by_cases hp : (dy on - dy (rd_T26 l (i : Int))) / 365 > 0
    · obtain ⟨n, hn, hx, hor, hk⟩ := ih (i + 1) (mx m (dy (rd_T26 l (i : Int)) + (dy on - dy (rd_T26 l (i : Int))) / 365 * 365)) (by omega) (by omega) (by unfold mx; split <;> omega) (by unfold mx; split <;> omega)
      refine ⟨n, hn, fun x => ?_, ?_, Ev.step (fun k => ?_) hk⟩
      · rw [hx x, drop_at l i hlt]
        simp only [List.mem_cons, forall_eq_or_imp]
        have : mx m (dy (rd_T26 l (i : Int)) + (dy on - dy (rd_T26 l (i : Int))) / 365 * 365) ≤ x ↔ m ≤ x ∧ ((dy on - dy (rd_T26 l (i : Int))) / 365 > 0 → dy (rd_T26 l (i : Int)) + (dy on - dy (rd_T26 l (i : Int))) / 365 * 365 ≤ x) := by
          constructor
          · intro h; unfold mx at h; split at h <;> exact ⟨by omega, fun _ => by omega⟩
          · intro ⟨p, q⟩; have := q hp; unfold mx; split <;> omega
        rw [this]
        exact and_assoc
      · rcases hor with h | h
        · unfold mx at h
          split at h
          all_goals first | exact .inl h | exact .inr ⟨_, hm, hp, h⟩
        · exact .inr h
      · rw [impl_LastBirthday.l0, if_pos (by omega), if_pos (by omega), if_pos (by omega), index_ok ho]
        simp only [Option.bind_some]
        rw [age_ok hok hle (by omega)]
        simp only [Option.bind_some]
        rw [if_pos hp, index_ok hok]
        simp only [Option.bind_some]
        rw [w64 (x := (dy on - dy (rd_T26 l (i : Int))) / 365 * 365) (by omega) (by omega), w64 (x := dy (rd_T26 l (i : Int)) + _) (by omega) (by omega), w_succ i l.length hlt (by omega)]
    · obtain ⟨n, hn, hx, hor, hk⟩ := ih (i + 1) m (by omega) (by omega) h0 h1
      refine ⟨n, hn, fun x => ?_, hor, Ev.step (fun k => ?_) hk⟩
      · rw [hx x, drop_at l i hlt]
        simp only [List.mem_cons, forall_eq_or_imp]
        exact ⟨fun ⟨p, q⟩ => ⟨p, fun h => absurd h hp, q⟩, fun ⟨p, _, q⟩ => ⟨p, q⟩⟩
      · rw [impl_LastBirthday.l0, if_pos (by omega), if_pos (by omega), if_pos (by omega), index_ok ho]
        simp only [Option.bind_some]
        rw [age_ok hok hle (by omega)]
        simp only [Option.bind_some]
        rw [if_neg hp, w_succ i l.length hlt (by omega)]
theorem slast_loop (l : List D) (on : D) (hl : l.all dateOk = true) (ho : dateOk on = true) (h8 : l.length ≤ 8) (n : Int) (hn0 : n ≤ dy on) (hn1 : dy on < n + 365 ∨ n < 0)
    (hno : ∀ m, n < m → m ≤ dy on → 0 ≤ m → dy on < m + 365 → whoFrom (dateD m) l 0 = []) (hyes : 0 ≤ n → whoFrom (dateD n) l 0 ≠ []) (d : Nat) : ∀ by_ : Int, 365 - by_ = d → 0 ≤ by_ → by_ ≤ 365 → n ≤ dy on - by_ ∨ n < 0 →
    Ev (fun k => spec_LastBirthday.l0 k l by_ on.f0 on.f1) (dayV l n) := by
  have r2 := dy_range ho
  induction d with
  | zero =>
    intro y hy h1 h2 h3
    refine Ev.step (f := fun _ => some (0, 0, [], false)) (fun k => by rw [spec_LastBirthday.l0, if_neg (by omega)]) ?_
    unfold dayV
    rw [if_neg (by omega)]
    exact Ev.now _
  | succ d ih =>
    intro y hy h1 h2 h3
    have e1 : wrap64 (dy on - y) = dy on - y := w64 (by omega) (by omega)
    have e2 : wrap64 (y + 1) = y + 1 := w64 (by omega) (by omega)
    refine Ev.step (fun k => by rw [spec_LastBirthday.l0, if_pos (by omega), biDays_ok ho]) ?_
    simp only [Option.bind_some, e1, e2]
    by_cases hin : 0 ≤ dy on - y
    · rw [back_val hin (by omega)]
      simp only [Option.bind_some, if_true]
      have hw := ev_biOf l (dateD (dy on - y)) h8
      refine Ev.bind hw ?_
      by_cases hlt : n < dy on - y
      · rw [hno (dy on - y) hlt (by omega) hin (by omega)]
        simp only [List.length_nil, Int.natCast_zero, gt_iff_lt, Int.lt_irrefl, if_false]
        exact ih (y + 1) (by omega) (by omega) (by omega) (by omega)
      · have hen : n = dy on - y := by omega
        subst hen
        have hne := hyes hin
        have hp : ((whoFrom (dateD (dy on - y)) l 0).length : Int) > 0 := by
          have := List.length_pos_iff.2 hne
          omega
        simp only [if_pos hp]
        refine Ev.bind hw ?_
        unfold dayV
        rw [if_pos (by omega)]
        exact Ev.now _
    · rw [back_none (by omega)]
      simp only [Option.bind_some, Bool.false_eq_true, if_false]
      exact ih (y + 1) (by omega) (by omega) (by omega) (by omega)
/-- the last birthday's day, of those who are born. -/
theorem last_all (l : List D) (on : D) (hb : bornL l on = true) : ∃ n : Int, n ≤ dy on ∧ (dy on < n + 365 ∨ n < 0) ∧ (n = -1 ∨ ∃ b ∈ l, dy b < n ∧ (n - dy b) % 365 = 0) ∧
    Ev (fun k => spec_LastBirthday.f k l on.f0 on.f1) (dayV l n) ∧ Ev (fun k => impl_LastBirthday.f k l on.f0 on.f1) (dayV l n) := by
  obtain ⟨h1, h8, hl, ho, hd⟩ := born_parts hb
  have hs := ev_biAll l on (by omega)
  have hi := ev_areBorn l on (by omega)
  unfold spec_LastBirthday.f impl_LastBirthday.f
  rw [hb] at hs hi
  have r2 := dy_range ho
  obtain ⟨n, hnl, hx, hor, hk⟩ := last_loop l on hl ho hd h8 l.length 0 (-1) (by omega) (by omega) (by omega) (by omega)
  rw [List.drop_zero] at hx
  have hxn := (hx n).1 (Int.le_refl _)
  have hge : dy on < n + 365 ∨ n < 0 := by
    rcases hor with h | ⟨b, hb', hp, h⟩
    · omega
    · omega
  refine ⟨n, hnl, hge, ?_, Ev.bind hs ?_, Ev.bind hi ?_⟩
  · rcases hor with h | ⟨b, hb', hp, h⟩
    · exact .inl h
    · exact .inr ⟨b, hb', by omega, by omega⟩
  · simp only [if_true]
    refine slast_loop l on hl ho h8 n hnl hge (fun m hm1 hm2 hm3 hm4 => ?_) (fun hn' hnil => ?_) 365 0 (by omega) (by omega) (by omega) (by omega)
    · rw [who_none l hl hm3 (by omega)]
      intro b hb' ⟨e, hlt⟩
      have h2 := hd b hb'
      have h3 := hxn.2 b hb' (by omega)
      omega
    · rw [who_none l hl hn' (by omega)] at hnil
      rcases hor with h | ⟨b, hb', hp, h⟩
      · omega
      · exact hnil b hb' (by omega)
  · simp only [if_true]
    exact hk
theorem last_not (l : List D) (on : D) (hn : l.length ≤ 1048576) (hb : bornL l on = false) : Ev (fun k => spec_LastBirthday.f k l on.f0 on.f1) (0, 0, [], false) ∧ Ev (fun k => impl_LastBirthday.f k l on.f0 on.f1) (0, 0, [], false) := by
  have hs := ev_biAll l on (by omega)
  have hi := ev_areBorn l on (by omega)
  unfold spec_LastBirthday.f impl_LastBirthday.f
  rw [hb] at hs hi
  refine ⟨Ev.bind hs ?_, Ev.bind hi ?_⟩
  · simp only [Bool.false_eq_true, if_false]; exact Ev.now _
  · simp only [Bool.false_eq_true, if_false]; exact Ev.now _

end Go.Proofs.Ytaabfjfdalcceaa.Pure
