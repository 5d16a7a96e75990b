/- Chapter 3, plain: what the laws ask of ages and birthdays. No condition beyond those typed at each lemma. -/
import Derived.Test.YtaabfjfdalcceaaBMore
import Derived.Test.YtaabfjfdalcceaaC3Base
import Derived.Test.YtaabfjfdalcceaaC3Who
import Derived.Test.YtaabfjfdalcceaaE0
import Derived.Test.YtaabfjfdalcceaaE4
namespace Go.Proofs.Ytaabfjfdalcceaa.Pure
open Go.RowKit Go.Proofs.Ytaabfjfdalcceaa.E Go.Proofs.YtaabfjfdalcceaaW.PrintWords Go.Proofs.YtaabfjfdalcceaaW.PrintLast
set_option linter.unusedVariables false
set_option linter.unusedSimpArgs false

/-! ### from some number of rounds on -/
def EvP (p : Nat → Prop) : Prop := ∃ K, ∀ k, K ≤ k → p k
theorem EvP.and {p q : Nat → Prop} (hp : EvP p) (hq : EvP q) : EvP fun k => p k ∧ q k := by
  obtain ⟨K, h⟩ := hp
  obtain ⟨K', h'⟩ := hq
  exact ⟨K + K', fun k hk => ⟨h k (by omega), h' k (by omega)⟩⟩
theorem EvP.mono {p q : Nat → Prop} (hp : EvP p) (hi : ∀ k, p k → q k) : EvP q := by
  obtain ⟨K, h⟩ := hp
  exact ⟨K, fun k hk => hi k (h k hk)⟩
theorem EvP.of {α : Type} {g : Nat → Option α} {r : α} (h : Ev g r) : EvP fun k => g k = some r := h
theorem EvP.now {p : Prop} (h : p) : EvP fun _ => p := ⟨0, fun _ _ => h⟩
theorem EvP.all (n : Nat) {p : Nat → Nat → Prop} (h : ∀ i, i < n → EvP (p i)) : EvP fun k => ∀ i, i < n → p i k := by
  induction n with
  | zero => exact ⟨0, fun k _ i hi => absurd hi (by omega)⟩
  | succ n ih =>
    refine (EvP.and (ih fun i hi => h i (by omega)) (h n (by omega))).mono fun k ⟨h1, h2⟩ i hi => ?_
    by_cases e : i = n
    · subst e; exact h2
    · exact h1 i (by omega)

/-! ### whose birthdays -/
def isDay (on b : D) : Prop := b.f1 = on.f1 ∧ b.f0 < on.f0
theorem who_mem (on : D) (l : List D) : ∀ (i : Nat) (x : Int), x ∈ whoFrom on l (i : Int) → ∃ j : Nat, i ≤ j ∧ x = (j : Int) ∧ ∃ h : j - i < l.length, isDay on l[j - i] := by
  induction l with
  | nil => intro i x h; simp [whoFrom] at h
  | cons b l ih =>
    intro i x h
    unfold whoFrom at h
    have step : x ∈ whoFrom on l ((i : Int) + 1) → ∃ j : Nat, i ≤ j ∧ x = (j : Int) ∧ ∃ h : j - i < (b :: l).length, isDay on (b :: l)[j - i] := by
      intro hx
      obtain ⟨j, hj, e, hlt, hd⟩ := ih (i + 1) x (by simpa using hx)
      refine ⟨j, by omega, e, by simp; omega, ?_⟩
      have : (b :: l)[j - i]'(by simp; omega) = l[j - (i + 1)]'hlt := by
        simp only [show j - i = (j - (i + 1)) + 1 by omega, List.getElem_cons_succ]
      rw [this]; exact hd
    by_cases c : b.f1 = on.f1 ∧ b.f0 < on.f0
    · rw [if_pos c] at h
      rcases List.mem_cons.1 h with rfl | h
      · exact ⟨i, Nat.le_refl _, rfl, by simp, by simp only [Nat.sub_self, List.getElem_cons_zero]; exact c⟩
      · exact step h
    · rw [if_neg c] at h
      exact step h
theorem who_has (on : D) (l : List D) : ∀ (i j : Nat) (h : j < l.length), isDay on l[j] → ((i + j : Nat) : Int) ∈ whoFrom on l (i : Int) := by
  induction l with
  | nil => intro i j h; exact absurd h (by simp)
  | cons b l ih =>
    intro i j h hd
    unfold whoFrom
    cases j with
    | zero => have hd' : b.f1 = on.f1 ∧ b.f0 < on.f0 := hd; rw [if_pos hd']; exact List.mem_cons_self ..
    | succ j =>
      have := ih (i + 1) j (by simpa using h) hd
      rw [show i + 1 + j = i + (j + 1) by omega] at this
      have h2 : ((i + (j + 1) : Nat) : Int) ∈ whoFrom on l ((i : Int) + 1) := by simpa using this
      split
      · exact List.mem_cons_of_mem _ h2
      · exact h2
theorem who_sorted (on : D) (l : List D) : ∀ i : Int, List.Pairwise (· < ·) (whoFrom on l i) ∧ ∀ x ∈ whoFrom on l i, i ≤ x := by
  induction l with
  | nil => intro i; simp [whoFrom]
  | cons b l ih =>
    intro i
    obtain ⟨h1, h2⟩ := ih (i + 1)
    unfold whoFrom
    split
    · refine ⟨List.pairwise_cons.2 ⟨fun x hx => by have := h2 x hx; omega, h1⟩, fun x hx => ?_⟩
      rcases List.mem_cons.1 hx with rfl | hx
      · omega
      · have := h2 x hx; omega
    · exact ⟨h1, fun x hx => by have := h2 x hx; omega⟩
theorem who_rises (on : D) (l : List D) (i : Nat) (h : i + 1 < (whoFrom on l 0).length) : rd (whoFrom on l 0) (i : Int) < rd (whoFrom on l 0) ((i + 1 : Nat) : Int) := by
  rw [rd_at _ i (by omega), rd_at _ (i + 1) h]
  exact List.pairwise_iff_getElem.1 (who_sorted on l 0).1 i (i + 1) (by omega) h (by omega)
theorem who_count (on : D) (g : D → Int) (l : List D) : (∀ b ∈ l, (isDay on b → g b = 1) ∧ (¬ isDay on b → g b = 0)) → ∀ i, (l.map g).sum = ((whoFrom on l i).length : Int) := by
  induction l with
  | nil => intro _ i; simp [whoFrom]
  | cons b l ih =>
    intro h i
    have h1 := ih (fun b hb => h b (List.mem_cons_of_mem _ hb)) (i + 1)
    have h2 := h b (List.mem_cons_self ..)
    unfold whoFrom
    rw [List.map_cons, List.sum_cons, h1]
    by_cases c : b.f1 = on.f1 ∧ b.f0 < on.f0
    · rw [if_pos c, h2.1 c, List.length_cons]; omega
    · rw [if_neg c, h2.2 c]; omega
theorem who_small (on : D) (l : List D) (x : Int) (h : x ∈ whoFrom on l 0) : 0 ≤ x ∧ x < (l.length : Int) ∧ isDay on (rd_T26 l x) := by
  obtain ⟨j, hj, rfl, hlt, hd⟩ := who_mem on l 0 x h
  rw [Nat.sub_zero] at hlt
  refine ⟨by omega, by omega, ?_⟩
  rw [rdT_at l j hlt]
  simpa using hd

/-! ### a day and the next birthday -/
theorem sub_day {b on : D} {n : Int} (hb : dateOk b = true) (ho : dateOk on = true) (h0 : dy b ≤ dy on) (h1 : dy on < n) (h2 : n ≤ dy b + ((dy on - dy b) / 365 + 1) * 365) (h3 : n ≤ 1095364) :
    (isDay (dateD n) b → ageD b (dateD n) - ageD b on = 1) ∧ (¬ isDay (dateD n) b → ageD b (dateD n) - ageD b on = 0) := by
  have r1 := dy_range hb
  have hd := dateD_ok (n := n) (by omega) h3
  have e1 := age_days hb ho h0
  have e2 := age_days hb hd.1 (by rw [hd.2]; omega)
  rw [hd.2] at e2
  rw [← e1, ← e2]
  have hs := day_same hb (n := n) (by omega) h3
  unfold isDay
  rw [hs]
  omega
theorem rd_map (l : List D) (f : D → Int) (i : Nat) (h : i < l.length) : rd (l.map f) (i : Int) = f (rd_T26 l (i : Int)) := by
  rw [rd_at _ i (by simpa using h), rdT_at l i h, List.getElem_map]
theorem inj_dy {a b : D} (ha : dateOk a = true) (hb : dateOk b = true) (h : dy a = dy b) : a = b := by
  rw [← dateD_dy ha, ← dateD_dy hb, h]
theorem born_later {l : List D} {a b : D} (h : bornL l a = true) (hb : dateOk b = true) (hab : dy a ≤ dy b) : bornL l b = true := by
  unfold bornL at h ⊢
  simp only [Bool.and_eq_true, List.all_eq_true, decide_eq_true_iff] at h ⊢
  exact ⟨h.1, hb, fun x hx => by have := h.2.2 x hx; omega⟩

end Go.Proofs.Ytaabfjfdalcceaa.Pure
