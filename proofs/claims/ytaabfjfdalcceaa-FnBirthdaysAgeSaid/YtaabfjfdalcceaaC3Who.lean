/- The program's NextBirthday and LastBirthday returns what the reference's returns, for all arguments. No condition. -/
import Derived.Test.YtaabfjfdalcceaaC3Base
import Derived.Test.YtaabfjfdalcceaaE0
import Derived.Test.YtaabfjfdalcceaaE4
import Derived.Test.YtaabfjfdalcceaaE5
import Derived.Test.YtaabfjfdalcceaaE7
namespace Go.Proofs.Ytaabfjfdalcceaa.Pure
open Go.RowKit Go.Proofs.Ytaabfjfdalcceaa.E Go.Proofs.YtaabfjfdalcceaaW.PrintWords Go.Proofs.YtaabfjfdalcceaaW.PrintLast
set_option linter.unusedVariables false
set_option linter.unusedSimpArgs false

/-- whose birthdays are on a day: the numbers from i on. -/
def whoFrom (on : D) : List D → Int → List Int
  | [], _ => []
  | b :: l, i => if b.f1 = on.f1 ∧ b.f0 < on.f0 then i :: whoFrom on l (i + 1) else whoFrom on l (i + 1)
theorem who_len (on : D) (l : List D) : ∀ i, (whoFrom on l i).length ≤ l.length := by
  induction l with
  | nil => intro i; simp [whoFrom]
  | cons b l ih =>
    intro i
    have := ih (i + 1)
    unfold whoFrom
    split <;> (simp; omega)
theorem who_empty (on : D) (l : List D) : ∀ i, whoFrom on l i = [] ↔ ∀ b ∈ l, ¬ (b.f1 = on.f1 ∧ b.f0 < on.f0) := by
  induction l with
  | nil => intro i; simp [whoFrom]
  | cons b l ih =>
    intro i
    unfold whoFrom
    simp only [List.mem_cons, forall_eq_or_imp]
    split
    · rename_i h; simp [h]
    · rename_i h; rw [ih (i + 1)]; exact ⟨fun k => ⟨h, k⟩, fun k => k.2⟩
theorem biOf_loop (l : List D) (on : D) (h8 : l.length ≤ 8) (d : Nat) : ∀ (i : Nat) (acc : List Int), l.length - i = d → i ≤ l.length → acc.length ≤ i →
    Ev (fun k => spec_biOf.l0 k acc l (l.length : Int) (i : Int) on.f0 on.f1) (acc ++ whoFrom on (l.drop i) (i : Int)) := by
  induction d with
  | zero =>
    intro i acc hd hi ha
    rw [List.drop_of_length_le (by omega)]
    exact Ev.step (f := fun _ => some (acc ++ [])) (fun k => by rw [spec_biOf.l0, if_neg (by omega), List.append_nil]) (Ev.now _)
  | succ d ih =>
    intro i acc hd hi ha
    have hlt : i < l.length := by omega
    rw [drop_at l i hlt]
    unfold whoFrom
    by_cases c1 : (rd_T26 l (i : Int)).f1 = on.f1
    · by_cases c2 : (rd_T26 l (i : Int)).f0 < on.f0
      · rw [if_pos ⟨c1, c2⟩]
        have hs := ih (i + 1) (acc ++ [(i : Int)]) (by omega) (by omega) (by simp; omega)
        rw [List.append_assoc, List.singleton_append] at hs
        refine Ev.step (fun k => ?_) hs
        rw [spec_biOf.l0, if_pos (by omega), if_pos (by omega), if_pos (by omega), if_pos c1, if_pos c2, if_pos (by omega), w_succ i l.length hlt (by omega)]
      · rw [if_neg (fun h => c2 h.2)]
        refine Ev.step (fun k => ?_) (ih (i + 1) acc (by omega) (by omega) (by omega))
        rw [spec_biOf.l0, if_pos (by omega), if_pos (by omega), if_pos (by omega), if_pos c1, if_neg c2, w_succ i l.length hlt (by omega)]
    · rw [if_neg (fun h => c1 h.1)]
      refine Ev.step (fun k => ?_) (ih (i + 1) acc (by omega) (by omega) (by omega))
      rw [spec_biOf.l0, if_pos (by omega), if_pos (by omega), if_pos (by omega), if_neg c1, w_succ i l.length hlt (by omega)]
theorem ev_biOf (l : List D) (on : D) (h8 : l.length ≤ 8) : Ev (fun k => spec_biOf.f k l on.f0 on.f1) (whoFrom on l 0) := by
  unfold spec_biOf.f
  simpa using biOf_loop l on h8 l.length 0 [] (by omega) (by omega) (by simp)
theorem bOf_loop (l : List D) (on : D) (h8 : l.length ≤ 8) (d : Nat) : ∀ (i : Nat) (acc : List Int), l.length - i = d → i ≤ l.length → acc.length ≤ i →
    Ev (fun k => impl_birthdayOf.l0 k acc l (l.length : Int) (i : Int) on.f0 on.f1) (on.f0, on.f1, acc ++ whoFrom on (l.drop i) (i : Int), true) := by
  induction d with
  | zero =>
    intro i acc hd hi ha
    rw [List.drop_of_length_le (by omega)]
    exact Ev.step (f := fun _ => some (on.f0, on.f1, acc ++ [], true)) (fun k => by rw [impl_birthdayOf.l0, if_neg (by omega), List.append_nil]) (Ev.now _)
  | succ d ih =>
    intro i acc hd hi ha
    have hlt : i < l.length := by omega
    rw [drop_at l i hlt]
    unfold whoFrom
    by_cases c1 : (rd_T26 l (i : Int)).f1 = on.f1
    · by_cases c2 : (rd_T26 l (i : Int)).f0 < on.f0
      · rw [if_pos ⟨c1, c2⟩]
        have hs := ih (i + 1) (acc ++ [(i : Int)]) (by omega) (by omega) (by simp; omega)
        rw [List.append_assoc, List.singleton_append] at hs
        refine Ev.step (fun k => ?_) hs
        rw [impl_birthdayOf.l0, if_pos (by omega), if_pos (by omega), if_pos (by omega), if_pos c1, if_pos c2, if_pos (by omega), w_succ i l.length hlt (by omega)]
      · rw [if_neg (fun h => c2 h.2)]
        refine Ev.step (fun k => ?_) (ih (i + 1) acc (by omega) (by omega) (by omega))
        rw [impl_birthdayOf.l0, if_pos (by omega), if_pos (by omega), if_pos (by omega), if_pos c1, if_neg c2, w_succ i l.length hlt (by omega)]
    · rw [if_neg (fun h => c1 h.1)]
      refine Ev.step (fun k => ?_) (ih (i + 1) acc (by omega) (by omega) (by omega))
      rw [impl_birthdayOf.l0, if_pos (by omega), if_pos (by omega), if_pos (by omega), if_neg c1, w_succ i l.length hlt (by omega)]
/-- the day n, and whose birthdays are on it. -/
def dayV (l : List D) (n : Int) : Int × Int × List Int × Bool := if 0 ≤ n ∧ n ≤ 1095364 then ((dateD n).f0, (dateD n).f1, whoFrom (dateD n) l 0, true) else (0, 0, [], false)
theorem ev_birthdayOf (l : List D) (n : Int) (h8 : l.length ≤ 8) : Ev (fun k => impl_birthdayOf.f k l n) (dayV l n) := by
  unfold impl_birthdayOf.f dayV
  rw [dateAt_eq]
  by_cases h : 0 ≤ n ∧ n ≤ 1095364
  · rw [back_val h.1 h.2, if_pos h]
    simp only [Option.bind_some, if_true]
    have h2 := bOf_loop l (dateD n) h8 l.length 0 [] (by omega) (by omega) (by simp)
    rw [List.drop_zero] at h2
    exact h2
  · rw [back_none h, if_neg h]
    simp only [Option.bind_some, Bool.false_eq_true, if_false]
    exact Ev.now _
/-- a birthday on the day n, by days alone. -/
theorem day_same {b : D} (hb : dateOk b = true) {n : Int} (h0 : 0 ≤ n) (h1 : n ≤ 1095364) : (b.f1 = (dateD n).f1 ∧ b.f0 < (dateD n).f0) ↔ (n - dy b) % 365 = 0 ∧ dy b < n := by
  have := (ok_iff b).1 hb
  unfold dateD dy
  simp only
  omega
theorem who_none (l : List D) (hl : l.all dateOk = true) {n : Int} (h0 : 0 ≤ n) (h1 : n ≤ 1095364) : whoFrom (dateD n) l 0 = [] ↔ ∀ b ∈ l, ¬ ((n - dy b) % 365 = 0 ∧ dy b < n) := by
  rw [who_empty]
  exact ⟨fun h b hb => by rw [← day_same ((List.all_eq_true.1 hl) b hb) h0 h1]; exact h b hb, fun h b hb => by rw [day_same ((List.all_eq_true.1 hl) b hb) h0 h1]; exact h b hb⟩

end Go.Proofs.Ytaabfjfdalcceaa.Pure
