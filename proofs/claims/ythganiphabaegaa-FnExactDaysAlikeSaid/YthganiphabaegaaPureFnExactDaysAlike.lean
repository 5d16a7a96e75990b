/- The program's DaysAlike returns what the reference's returns, for all arguments. No condition. -/
import Derived.Test.YthganiphabaegaaX1
import Derived.Test.YthganiphabaegaaX5
import Derived.Test.YthganiphabaegaaX6
import Derived.Test.YthganiphabaegaaX7
namespace Go.Proofs.Ythganiphabaegaa.Pure
open Go.RowKit Go.Proofs.Ythganiphabaegaa.X Go.Proofs.YthganiphabaegaaW.PrintWords Go.Proofs.YthganiphabaegaaW.PrintLast

theorem alike_loop (ya da yb db y : Int) (h1 : 0 ≤ ya) (h2 : ya < y) (h3 : 0 ≤ yb) (h4 : yb < y) (h5 : y ≤ 3000) (h6 : 1 ≤ da) (h7 : da ≤ 365) (h8 : 1 ≤ db) (h9 : db ≤ 365) (m : Nat) :
    ∀ (k : Nat) (c i : Int), 0 ≤ i → i ≤ 365 → 365 - i = m → m < k → 0 ≤ c → c ≤ i → ∃ r, spec_DaysAlike.l0 k y c (i + 1) ya da yb db = some (r, true) ∧ impl_DaysAlike.l0 k y c i ya da yb db = some (r, true) := by
  induction m with
  | zero =>
    intro k c i hi hi2 hm hk hc hci
    obtain ⟨k, rfl⟩ : ∃ m, k = m + 1 := ⟨k - 1, by omega⟩
    refine ⟨c, ?_, ?_⟩
    · simp only [spec_DaysAlike.l0]; rw [if_neg (by omega)]
    · simp only [impl_DaysAlike.l0]; rw [if_neg (by omega)]
  | succ m ih =>
    intro k c i hi hi2 hm hk hc hci
    obtain ⟨k, rfl⟩ : ∃ m, k = m + 1 := ⟨k - 1, by omega⟩
    have age : ∀ (p q : Int), 0 ≤ p → p < y → 1 ≤ q → q ≤ 365 → impl_Date_age.f p q (wrap64 (wrap64 (y * 365) + i)) = spec_biAge.f p q y (i + 1) := by
      intro p q a b c d
      unfold impl_Date_age.f impl_Date_index.f spec_biAge.f
      simp only [Option.bind_some]
      have e1 : wrap64 (y * 365) = y * 365 := by unfold wrap64; omega
      have e2 : wrap64 (wrap64 (y * 365) + i) = y * 365 + i := by rw [e1]; unfold wrap64; omega
      have e3 : wrap64 (wrap64 (wrap64 (p * 365) + q) - 1) = p * 365 + q - 1 := by unfold wrap64; omega
      have e4 : wrap64 (y * 365 + i - (p * 365 + q - 1)) = y * 365 + i - (p * 365 + q - 1) := by unfold wrap64; omega
      rw [e2, e3, e4, Int.tdiv_eq_ediv_of_nonneg (by omega)]
      split <;> (congr 1; unfold wrap64; omega)
    have ea := age ya da h1 h2 h6 h7
    have eb := age yb db h3 h4 h8 h9
    obtain ⟨u, hu⟩ : ∃ u, spec_biAge.f ya da y (i + 1) = some u := by unfold spec_biAge.f; split <;> exact ⟨_, rfl⟩
    obtain ⟨v, hv⟩ : ∃ u, spec_biAge.f yb db y (i + 1) = some u := by unfold spec_biAge.f; split <;> exact ⟨_, rfl⟩
    have w1 : wrap64 (i + 1) = i + 1 := by unfold wrap64; omega
    have w2 : wrap64 (i + 1 + 1) = i + 1 + 1 := by unfold wrap64; omega
    have w3 : wrap64 (c + 1) = c + 1 := by unfold wrap64; omega
    rw [hu] at ea
    rw [hv] at eb
    simp only [spec_DaysAlike.l0, impl_DaysAlike.l0]
    rw [if_pos (by omega), if_pos (by omega), ea, eb, hu, hv]
    simp only [Option.bind_some]
    rw [w1, w2, w3]
    by_cases e : u = v
    · rw [if_pos e, if_pos e]
      exact ih k (c + 1) (i + 1) (by omega) (by omega) (by omega) (by omega) (by omega) (by omega)
    · rw [if_neg e, if_neg e]
      exact ih k c (i + 1) (by omega) (by omega) (by omega) (by omega) (by omega) (by omega)

theorem date_some (a b : Int) : spec_biDate.f a b = some (decide (0 ≤ a ∧ a ≤ 3000 ∧ 1 ≤ b ∧ b ≤ 365)) := by
  unfold spec_biDate.f spec_l1In.f
  by_cases h1 : 0 ≤ a <;> by_cases h2 : a ≤ 3000 <;> by_cases h3 : 1 ≤ b <;> by_cases h4 : b ≤ 365 <;> simp [h1, h2, h3, h4]
theorem date_some' (a b : Int) : impl_IsDate.f a b = some (decide (0 ≤ a ∧ a ≤ 3000 ∧ 1 ≤ b ∧ b ≤ 365)) := date_some a b

theorem alike_both (ya da yb db y : Int) : ∃ r, spec_DaysAlike.f 1000 ya da yb db y = some r ∧ impl_DaysAlike.f 1000 ya da yb db y = some r := by
  have e1 : spec_l1In.f y 0 3000 = some (decide (0 ≤ y ∧ y ≤ 3000)) := by
    unfold spec_l1In.f
    by_cases h1 : 0 ≤ y <;> by_cases h2 : y ≤ 3000 <;> simp [h1, h2]
  have e2 : impl_between.f y 0 3000 = some (decide (0 ≤ y ∧ y ≤ 3000)) := e1
  unfold spec_DaysAlike.f impl_DaysAlike.f
  rw [date_some, date_some, date_some', date_some', e1, e2]
  simp only [Option.bind_some]
  by_cases c1 : 0 ≤ ya ∧ ya ≤ 3000 ∧ 1 ≤ da ∧ da ≤ 365
  · by_cases c2 : 0 ≤ yb ∧ yb ≤ 3000 ∧ 1 ≤ db ∧ db ≤ 365
    · by_cases c3 : 0 ≤ y ∧ y ≤ 3000
      · by_cases c4 : ya ≥ y
        · rw [decide_eq_true c1, decide_eq_true c2, decide_eq_true c3, if_pos c4, if_pos c4]
          exact ⟨_, rfl, rfl⟩
        · by_cases c5 : yb ≥ y
          · rw [decide_eq_true c1, decide_eq_true c2, decide_eq_true c3, if_neg c4, if_neg c4, decide_eq_true c5]
            exact ⟨_, rfl, rfl⟩
          · rw [decide_eq_true c1, decide_eq_true c2, decide_eq_true c3, if_neg c4, if_neg c4, decide_eq_false c5]
            obtain ⟨r, h, h'⟩ := alike_loop ya da yb db y (by omega) (by omega) (by omega) (by omega) (by omega) (by omega) (by omega) (by omega) (by omega) 365 999 0 0 (by omega) (by omega) (by omega) (by omega) (by omega) (by omega)
            refine ⟨(r, true), ?_, ?_⟩
            · simp only [spec_DaysAlike.j0, if_true, Bool.false_eq_true, if_false]; exact h
            · simp only [impl_DaysAlike.j0, if_true, Bool.false_eq_true, if_false]; exact h'
      · rw [decide_eq_true c1, decide_eq_true c2, decide_eq_false c3]
        exact ⟨_, rfl, rfl⟩
    · rw [decide_eq_true c1, decide_eq_false c2]
      exact ⟨_, rfl, rfl⟩
  · rw [decide_eq_false c1]
    exact ⟨_, rfl, rfl⟩

theorem FnExactDaysAlike : laws_FnExactDaysAlike.Pure := by
  intro ya da yb db y _ _ _ _ _
  refine ⟨1000, ?_⟩
  obtain ⟨⟨r1, r2⟩, h, h'⟩ := alike_both ya da yb db y
  unfold laws_FnExactDaysAlike.f
  simp [laws_toDate.f, h, h']

end Go.Proofs.Ythganiphabaegaa.Pure
