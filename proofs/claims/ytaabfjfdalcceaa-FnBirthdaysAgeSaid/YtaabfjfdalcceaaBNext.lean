/- Chapter 3, plain: the next birthday. No condition beyond those typed at each lemma. -/
import Derived.Test.YtaabfjfdalcceaaC3Base
import Derived.Test.YtaabfjfdalcceaaC3Who
import Derived.Test.YtaabfjfdalcceaaE0
import Derived.Test.YtaabfjfdalcceaaE4
import Derived.Test.YtaabfjfdalcceaaE6
import Derived.Test.YtaabfjfdalcceaaE7
namespace Go.Proofs.Ytaabfjfdalcceaa.Pure
open Go.RowKit Go.Proofs.Ytaabfjfdalcceaa.E Go.Proofs.YtaabfjfdalcceaaW.PrintWords Go.Proofs.YtaabfjfdalcceaaW.PrintLast
set_option linter.unusedVariables false
set_option linter.unusedSimpArgs false

theorem next_loop (l : List D) (on : D) (hl : l.all dateOk = true) (ho : dateOk on = true) (hd : ∀ b ∈ l, dy b ≤ dy on) (h8 : l.length ≤ 8) (d : Nat) : ∀ (i : Nat) (m : Int), l.length - i = d → i ≤ l.length → 0 ≤ m → m ≤ 1095365 →
    ∃ n : Int, (∀ x : Int, x ≤ n ↔ x ≤ m ∧ ∀ b ∈ l.drop i, x ≤ dy b + ((dy on - dy b) / 365 + 1) * 365) ∧ (n = m ∨ ∃ b ∈ l, n = dy b + ((dy on - dy b) / 365 + 1) * 365) ∧
      Ev (fun k => impl_NextBirthday.l0 k l m l (l.length : Int) (i : Int) on.f0 on.f1) (dayV l n) := by
  have r2 := dy_range ho
  induction d with
  | zero =>
    intro i m hdd hi h0 h1
    rw [List.drop_of_length_le (by omega)]
    refine ⟨m, by simp, .inl rfl, Ev.step (fun k => by rw [impl_NextBirthday.l0, if_neg (by omega)]) ?_⟩
    exact Ev.bind (ev_birthdayOf l m h8) (Ev.now _)
  | succ d ih =>
    intro i m hdd hi h0 h1
    have hlt : i < l.length := by omega
    have hok := all_at l i hlt hl
    have hm : rd_T26 l (i : Int) ∈ l := by rw [rdT_at l i hlt]; exact List.getElem_mem _
    have r1 := dy_range hok
    have hle := hd _ hm
    obtain ⟨n, hx, hor, hk⟩ := ih (i + 1) (mn m (dy (rd_T26 l (i : Int)) + ((dy on - dy (rd_T26 l (i : Int))) / 365 + 1) * 365)) (by omega) (by omega) (by unfold mn; split <;> omega) (by unfold mn; split <;> omega)
    refine ⟨n, fun x => ?_, ?_, Ev.step (fun k => ?_) hk⟩
    · rw [hx x, drop_at l i hlt]
      simp only [List.mem_cons, forall_eq_or_imp]
      have : x ≤ mn m (dy (rd_T26 l (i : Int)) + ((dy on - dy (rd_T26 l (i : Int))) / 365 + 1) * 365) ↔ x ≤ m ∧ x ≤ dy (rd_T26 l (i : Int)) + ((dy on - dy (rd_T26 l (i : Int))) / 365 + 1) * 365 := by unfold mn; split <;> omega
      rw [this]
      exact and_assoc
    · rcases hor with h | h
      · unfold mn at h
        split at h
        all_goals first | exact .inl h | exact .inr ⟨_, hm, h⟩
      · exact .inr h
    · rw [impl_NextBirthday.l0, if_pos (by omega), if_pos (by omega), if_pos (by omega), index_ok hok, index_ok ho]
      simp only [Option.bind_some]
      rw [age_ok hok hle (by omega)]
      simp only [Option.bind_some]
      rw [w64 (x := (dy on - dy (rd_T26 l (i : Int))) / 365 + 1) (by omega) (by omega), w64 (x := ((dy on - dy (rd_T26 l (i : Int))) / 365 + 1) * 365) (by omega) (by omega), w64 (x := dy (rd_T26 l (i : Int)) + _) (by omega) (by omega), w_succ i l.length hlt (by omega)]
theorem snext_loop (l : List D) (on : D) (hl : l.all dateOk = true) (ho : dateOk on = true) (h8 : l.length ≤ 8) (n : Int) (hn0 : dy on < n) (hn1 : n ≤ dy on + 365 ∨ 1095364 < n)
    (hno : ∀ m, dy on < m → m < n → m ≤ 1095364 → whoFrom (dateD m) l 0 = []) (hyes : n ≤ 1095364 → whoFrom (dateD n) l 0 ≠ []) (d : Nat) : ∀ by_ : Int, 366 - by_ = d → 1 ≤ by_ → by_ ≤ 366 → dy on + by_ ≤ n ∨ 1095364 < n →
    Ev (fun k => spec_NextBirthday.l0 k l by_ on.f0 on.f1) (dayV l n) := by
  have r2 := dy_range ho
  induction d with
  | zero =>
    intro y hy h1 h2 h3
    refine Ev.step (f := fun _ => some (0, 0, [], false)) (fun k => by rw [spec_NextBirthday.l0, if_neg (by omega)]) ?_
    unfold dayV
    rw [if_neg (by omega)]
    exact Ev.now _
  | succ d ih =>
    intro y hy h1 h2 h3
    have e1 : wrap64 (dy on + y) = dy on + y := w64 (by omega) (by omega)
    have e2 : wrap64 (y + 1) = y + 1 := w64 (by omega) (by omega)
    refine Ev.step (fun k => by rw [spec_NextBirthday.l0, if_pos (by omega), biDays_ok ho]) ?_
    simp only [Option.bind_some, e1, e2]
    by_cases hin : dy on + y ≤ 1095364
    · rw [back_val (by omega) hin]
      simp only [Option.bind_some, if_true]
      have ho2 : ((dy on + y) / 365 = (dateD (dy on + y)).f0) := rfl
      have hw := ev_biOf l (dateD (dy on + y)) h8
      refine Ev.bind hw ?_
      by_cases hlt : dy on + y < n
      · rw [hno (dy on + y) (by omega) hlt hin]
        simp only [List.length_nil, Int.natCast_zero, gt_iff_lt, Int.lt_irrefl, if_false]
        exact ih (y + 1) (by omega) (by omega) (by omega) (by omega)
      · have hen : n = dy on + y := by omega
        subst hen
        have hne := hyes hin
        have hp : ((whoFrom (dateD (dy on + y)) l 0).length : Int) > 0 := by
          have := List.length_pos_iff.2 hne
          omega
        simp only [if_pos hp]
        refine Ev.bind hw ?_
        unfold dayV
        rw [if_pos (by omega)]
        exact Ev.now _
    · rw [back_none (by omega)]
      simp only [Option.bind_some, Bool.false_eq_true, if_false]
      by_cases hy6 : y + 1 ≤ 366
      · exact ih (y + 1) (by omega) (by omega) hy6 (by omega)
      · omega
/-- the next birthday's day, of those who are born. -/
theorem next_all (l : List D) (on : D) (hb : bornL l on = true) : ∃ n : Int, dy on < n ∧ n ≤ dy on + 365 ∧ (∀ b ∈ l, n ≤ dy b + ((dy on - dy b) / 365 + 1) * 365) ∧ (n = 1095365 ∨ ∃ b ∈ l, n = dy b + ((dy on - dy b) / 365 + 1) * 365) ∧
    Ev (fun k => spec_NextBirthday.f k l on.f0 on.f1) (dayV l n) ∧ Ev (fun k => impl_NextBirthday.f k l on.f0 on.f1) (dayV l n) := by
  obtain ⟨h1, h8, hl, ho, hd⟩ := born_parts hb
  have hs := ev_biAll l on (by omega)
  have hi := ev_areBorn l on (by omega)
  unfold spec_NextBirthday.f impl_NextBirthday.f
  rw [hb] at hs hi
  have r2 := dy_range ho
  obtain ⟨n, hx, hor, hk⟩ := next_loop l on hl ho hd h8 l.length 0 1095365 (by omega) (by omega) (by omega) (by omega)
  rw [List.drop_zero] at hx
  have hxn := (hx n).1 (Int.le_refl _)
  have hlow : dy on < n := by
    rcases hor with h | ⟨b, hb', h⟩
    · omega
    · have := hd b hb'; omega
  obtain ⟨b0, hb0⟩ : ∃ b, b ∈ l := by cases l with
    | nil => simp at h1
    | cons b l => exact ⟨b, List.mem_cons_self ..⟩
  have hhi : n ≤ dy on + 365 := by have h1 := hxn.2 b0 hb0; have h2 := hd b0 hb0; omega
  refine ⟨n, hlow, hhi, hxn.2, hor, Ev.bind hs ?_, Ev.bind hi ?_⟩
  · simp only [if_true]
    refine snext_loop l on hl ho h8 n hlow (.inl hhi) (fun m hm1 hm2 hm3 => ?_) (fun hn' hnil => ?_) 365 1 (by omega) (by omega) (by omega) (by omega)
    · rw [who_none l hl (by omega) hm3]
      intro b hb' ⟨e, hlt⟩
      have h1 := hxn.2 b hb'
      have h2 := hd b hb'
      omega
    · rw [who_none l hl (by omega) hn'] at hnil
      rcases hor with h | ⟨b, hb', h⟩
      · omega
      · have h2 := hd b hb'
        exact hnil b hb' (by omega)
  · simp only [if_true]
    exact hk
theorem next_not (l : List D) (on : D) (hn : l.length ≤ 1048576) (hb : bornL l on = false) : Ev (fun k => spec_NextBirthday.f k l on.f0 on.f1) (0, 0, [], false) ∧ Ev (fun k => impl_NextBirthday.f k l on.f0 on.f1) (0, 0, [], false) := by
  have hs := ev_biAll l on (by omega)
  have hi := ev_areBorn l on (by omega)
  unfold spec_NextBirthday.f impl_NextBirthday.f
  rw [hb] at hs hi
  refine ⟨Ev.bind hs ?_, Ev.bind hi ?_⟩
  · simp only [Bool.false_eq_true, if_false]; exact Ev.now _
  · simp only [Bool.false_eq_true, if_false]; exact Ev.now _

end Go.Proofs.Ytaabfjfdalcceaa.Pure
