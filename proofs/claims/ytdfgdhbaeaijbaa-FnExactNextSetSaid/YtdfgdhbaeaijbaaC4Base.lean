/- Chapter 4, plain: which lists are sets; conversions and marks. No condition beyond those typed at each lemma. -/
import Derived.Test.YtdfgdhbaeaijbaaX1
import Derived.Test.YtdfgdhbaeaijbaaX2
import Derived.Test.YtdfgdhbaeaijbaaX3
import Derived.Test.YtdfgdhbaeaijbaaX4
import Derived.Test.YtdfgdhbaeaijbaaX5
namespace Go.Proofs.Ytdfgdhbaeaijbaa.Pure
open Go.RowKit Go.Proofs.Ytdfgdhbaeaijbaa.X Go.Proofs.YtdfgdhbaeaijbaaW.PrintWords Go.Proofs.YtdfgdhbaeaijbaaW.PrintLast
set_option linter.unusedVariables false
set_option linter.unusedSimpArgs false

theorem w64 {x : Int} (h0 : -9223372036854775808 ≤ x) (h1 : x ≤ 9223372036854775807) : wrap64 x = x := by unfold wrap64; omega
theorem w_succ (i n : Nat) (h : i < n) (hn : n ≤ 9223372036854775807) : wrap64 ((i : Int) + 1) = ((i + 1 : Nat) : Int) := by
  rw [w64 (by omega) (by omega)]; rfl
theorem l1In_val (n a b : Int) : spec_l1In.f n a b = some (decide (a ≤ n ∧ n ≤ b)) := by
  unfold spec_l1In.f
  by_cases h1 : a ≤ n <;> by_cases h2 : n ≤ b <;> simp [h1, h2]
theorem between_val (n a b : Int) : impl_between.f n a b = some (decide (a ≤ n ∧ n ≤ b)) := l1In_val n a b
theorem rd_at (l : List Int) (i : Nat) (h : i < l.length) : rd l (i : Int) = l[i] := by simp [rd, List.getD, List.getElem?_eq_getElem h]
theorem drop_rd (l : List Int) (i : Nat) (h : i < l.length) : l.drop i = rd l (i : Int) :: l.drop (i + 1) := by
  rw [rd_at l i h]
  exact List.drop_eq_getElem_cons h

/-! ### sets -/
def SetP (l : List Int) : Prop := (1 ≤ l.length ∧ l.length ≤ 4) ∧ (∀ x ∈ l, 1 ≤ x ∧ x ≤ 20) ∧ ∀ j : Nat, 1 ≤ j → j < l.length → rd l ((j - 1 : Nat) : Int) ≤ rd l (j : Int)
theorem all_loop (l : List Int) (a b : Int) (hn : l.length ≤ 9223372036854775807) (d : Nat) : ∀ i : Nat, l.length - i = d → i ≤ l.length → Ev (fun k => spec_l1All.l0 k a b l (l.length : Int) (i : Int)) ((l.drop i).all fun x => decide (a ≤ x ∧ x ≤ b)) := by
  induction d with
  | zero =>
    intro i hd hi
    rw [List.drop_of_length_le (by omega)]
    exact Ev.step (f := fun _ => some true) (fun k => by rw [spec_l1All.l0, if_neg (by omega)]) (Ev.now _)
  | succ d ih =>
    intro i hd hi
    have hlt : i < l.length := by omega
    rw [drop_rd l i hlt, List.all_cons]
    cases hb : decide (a ≤ rd l (i : Int) ∧ rd l (i : Int) ≤ b) with
    | true =>
      rw [Bool.true_and]
      refine Ev.step (fun k => ?_) (ih (i + 1) (by omega) (by omega))
      rw [spec_l1All.l0, if_pos (by omega), if_pos (by omega), if_pos (by omega), l1In_val, hb]
      simp only [Option.bind_some, if_true]
      rw [w_succ i l.length hlt hn]
    | false =>
      rw [Bool.false_and]
      refine Ev.step (f := fun _ => some false) (fun k => ?_) (Ev.now _)
      rw [spec_l1All.l0, if_pos (by omega), if_pos (by omega), if_pos (by omega), l1In_val, hb]
      simp
theorem ev_all (l : List Int) (a b : Int) (hn : l.length ≤ 9223372036854775807) : Ev (fun k => spec_l1All.f k l a b) (l.all fun x => decide (a ≤ x ∧ x ≤ b)) := by
  unfold spec_l1All.f
  simpa using all_loop l a b hn l.length 0 (by omega) (by omega)
theorem up_loop (l : List Int) (hn : l.length ≤ 4) (d : Nat) : ∀ i : Nat, l.length - i = d → 1 ≤ i → ∃ b, Ev (fun k => spec_siGood.l0 k l (i : Int)) b ∧ (b = true ↔ ∀ j : Nat, i ≤ j → j < l.length → rd l ((j - 1 : Nat) : Int) ≤ rd l (j : Int)) := by
  induction d with
  | zero =>
    intro i hd hi
    exact ⟨true, Ev.step (f := fun _ => some true) (fun k => by rw [spec_siGood.l0, if_neg (by omega)]) (Ev.now _), ⟨fun _ j h1 h2 => by omega, fun _ => rfl⟩⟩
  | succ d ih =>
    intro i hd hi
    have hlt : i < l.length := by omega
    have e1 : wrap64 ((i : Int) - 1) = ((i - 1 : Nat) : Int) := by rw [w64 (by omega) (by omega)]; omega
    by_cases hc : rd l (i : Int) < rd l ((i - 1 : Nat) : Int)
    · refine ⟨false, Ev.step (f := fun _ => some false) (fun k => ?_) (Ev.now _), ⟨fun h => (by cases h), fun h => ?_⟩⟩
      · rw [spec_siGood.l0, if_pos (by omega), if_pos (by omega), e1, if_pos (by omega), if_pos (by omega), if_pos hc]
      · have := h i (Nat.le_refl _) hlt; omega
    · obtain ⟨b, hb, hiff⟩ := ih (i + 1) (by omega) (by omega)
      refine ⟨b, Ev.step (fun k => ?_) hb, hiff.trans ⟨fun h j h1 h2 => ?_, fun h j h1 h2 => h j (by omega) h2⟩⟩
      · rw [spec_siGood.l0, if_pos (by omega), if_pos (by omega), e1, if_pos (by omega), if_pos (by omega), if_neg hc, w_succ i l.length hlt (by omega)]
      · by_cases e : j = i
        · subst e; omega
        · exact h j (by omega) h2
theorem less_val (a b : Int) : cmp_Less_int.f a b = some (decide (a < b)) := by
  unfold cmp_Less_int.f cmp_isNaN_int.f
  simp
theorem down_loop (l : List Int) (hn : l.length ≤ 4) : ∀ i : Nat, i < l.length → ∃ b, Ev (fun k => slices_IsSorted_int_int.l0 k l (i : Int)) b ∧ (b = true ↔ ∀ j : Nat, 1 ≤ j → j ≤ i → rd l ((j - 1 : Nat) : Int) ≤ rd l (j : Int)) := by
  intro i
  induction i with
  | zero =>
    intro hi
    exact ⟨true, Ev.step (f := fun _ => some true) (fun k => by rw [slices_IsSorted_int_int.l0, if_neg (by omega)]) (Ev.now _), ⟨fun _ j h1 h2 => by omega, fun _ => rfl⟩⟩
  | succ i ih =>
    intro hi
    have e1 : wrap64 (((i + 1 : Nat) : Int) - 1) = (i : Int) := by rw [w64 (by omega) (by omega)]; omega
    by_cases hc : rd l ((i + 1 : Nat) : Int) < rd l (i : Int)
    · refine ⟨false, Ev.step (f := fun _ => some false) (fun k => ?_) (Ev.now _), ⟨fun h => (by cases h), fun h => ?_⟩⟩
      · rw [slices_IsSorted_int_int.l0, if_pos (by omega), if_pos (by omega), if_pos (by omega), e1, if_pos (by omega), if_pos (by omega), less_val, decide_eq_true hc]
        rfl
      · have := h (i + 1) (by omega) (Nat.le_refl _)
        rw [Nat.add_sub_cancel] at this
        omega
    · obtain ⟨b, hb, hiff⟩ := ih (by omega)
      refine ⟨b, Ev.step (fun k => ?_) hb, hiff.trans ⟨fun h j h1 h2 => ?_, fun h j h1 h2 => h j h1 (by omega)⟩⟩
      · rw [slices_IsSorted_int_int.l0, if_pos (by omega), if_pos (by omega), if_pos (by omega), e1, if_pos (by omega), if_pos (by omega), less_val, decide_eq_false hc]
        rfl
      · by_cases e : j = i + 1
        · subst e
          rw [Nat.add_sub_cancel]
          omega
        · exact h j h1 (by omega)
theorem bool_eq {a b : Bool} {P : Prop} (h : a = true ↔ P) (h' : b = true ↔ P) : a = b := by rw [Bool.eq_iff_iff, h, h']
theorem ev_set (l : List Int) (hn : l.length ≤ 9223372036854775807) : ∃ b, Ev (fun k => spec_siGood.f k l) b ∧ Ev (fun k => impl_isSet.f k l) b ∧ (b = true ↔ SetP l) := by
  unfold spec_siGood.f impl_isSet.f SetP
  rw [l1In_val, between_val]
  simp only [Option.bind_some]
  have sno : Ev (fun k => spec_siGood.j0 k l true) false := Ev.step (f := fun _ => some false) (fun k => by rw [spec_siGood.j0, if_pos rfl]) (Ev.now _)
  by_cases h : 1 ≤ l.length ∧ l.length ≤ 4
  · rw [decide_eq_true (show (1 : Int) ≤ (l.length : Int) ∧ (l.length : Int) ≤ 4 by omega)]
    simp only [if_true]
    have ha := ev_all l 1 20 hn
    cases hall : (l.all fun x => decide ((1 : Int) ≤ x ∧ x ≤ 20)) with
    | false =>
      rw [hall] at ha
      refine ⟨false, Ev.bind ha ?_, ?_, ⟨fun h => (by cases h), fun h => ?_⟩⟩
      · simp only [Bool.not_false]; exact sno
      · unfold impl_areBetween.f
        rw [hall]
        simp only [Option.bind_some, Bool.false_eq_true, if_false]
        exact Ev.now _
      · have : (l.all fun x => decide ((1 : Int) ≤ x ∧ x ≤ 20)) = true := by
          rw [List.all_eq_true]
          exact fun x hx => decide_eq_true (h.2.1 x hx)
        rw [hall] at this
        cases this
    | true =>
      rw [hall] at ha
      have hx : ∀ x ∈ l, 1 ≤ x ∧ x ≤ 20 := fun x hx => of_decide_eq_true ((List.all_eq_true.1 hall) x hx)
      obtain ⟨b, hb, hiff⟩ := up_loop l h.2 (l.length - 1) 1 rfl (by omega)
      obtain ⟨c, hc, hiff'⟩ := down_loop l h.2 (l.length - 1) (by omega)
      have hP : c = true ↔ ∀ j : Nat, 1 ≤ j → j < l.length → rd l ((j - 1 : Nat) : Int) ≤ rd l (j : Int) := hiff'.trans ⟨fun g j h1 h2 => g j h1 (by omega), fun g j h1 h2 => g j h1 (by omega)⟩
      have hbc : c = b := bool_eq hP hiff
      subst hbc
      refine ⟨c, Ev.bind ha ?_, ?_, ?_⟩
      · simp only [Bool.not_true]
        refine Ev.step (fun k => by rw [spec_siGood.j0, if_neg (by simp)]) ?_
        exact hb
      · unfold impl_areBetween.f
        rw [hall]
        simp only [Option.bind_some, if_true]
        unfold slices_IsSorted_int_int.f
        have e1 : wrap64 ((l.length : Int) - 1) = ((l.length - 1 : Nat) : Int) := by rw [w64 (by omega) (by omega)]; omega
        rw [e1]
        exact Ev.bind hc (Ev.now _)
      · rw [hP]
        exact ⟨fun g => ⟨h, hx, g⟩, fun g => g.2.2⟩
  · rw [decide_eq_false (show ¬ ((1 : Int) ≤ (l.length : Int) ∧ (l.length : Int) ≤ 4) by omega)]
    simp only [Bool.false_eq_true, if_false]
    exact ⟨false, sno, Ev.now _, ⟨fun h => (by cases h), fun g => absurd g.1 h⟩⟩

end Go.Proofs.Ytdfgdhbaeaijbaa.Pure
