/- Chapter 4, plain: the sets that are found by dividing a product are the sets of so many children with that product, in order. No condition beyond those typed at each lemma. -/
import Derived.Test.YtebidfogkjidaaaC4In
import Derived.Test.YtebidfogkjidaaaE1
import Derived.Test.YtebidfogkjidaaaE16
import Derived.Test.YtebidfogkjidaaaE3
import Derived.Test.YtebidfogkjidaaaE5
namespace Go.Proofs.Ytebidfogkjidaaa.Pure
open Go.RowKit Go.Proofs.Ytebidfogkjidaaa.E Go.Proofs.YtebidfogkjidaaaW.PrintWords Go.Proofs.YtebidfogkjidaaaW.PrintLast
set_option linter.unusedVariables false
set_option linter.unusedSimpArgs false

theorem prodL_snoc (l : List Int) (a : Int) : prodL (l ++ [a]) = prodL l * a := by simp [prodL]
theorem prodL_pos (l : List Int) (h : Ages l) : 1 ≤ prodL l := by
  have key : ∀ (l : List Int) (acc : Int), Ages l → 1 ≤ acc → 1 ≤ l.foldl (· * ·) acc := by
    intro l
    induction l with
    | nil => intro acc _ h; exact h
    | cons x r ih =>
      intro acc hl hacc
      rw [List.foldl_cons]
      refine ih _ (fun y hy => hl y (List.mem_cons_of_mem _ hy)) ?_
      have hx := (hl x (List.mem_cons_self ..)).1
      have := Int.mul_le_mul hacc hx (by omega) (by omega)
      omega
  exact key l 1 h (by omega)
theorem mem_allSets_prod (n : Nat) : ∀ (l s : List Int), Ages l → s ∈ allSets n l → ∃ k, prodL s = prodL l * k := by
  induction n with
  | zero =>
    intro l s _ hs
    obtain rfl : s = l := by simpa [allSets] using hs
    exact ⟨1, by omega⟩
  | succ n ih =>
    intro l s hl hs
    have hf := hl.from_
    simp only [allSets, List.mem_flatten, List.mem_map, List.mem_range] at hs
    obtain ⟨_, ⟨i, hi, rfl⟩, hs⟩ := hs
    obtain ⟨k, hk⟩ := ih _ s (hl.snoc (by omega) (by omega)) hs
    exact ⟨(fromOf l + (i : Int)) * k, by rw [hk, prodL_snoc, Int.mul_assoc]⟩
theorem look_eq (n : Nat) : ∀ (left : Int) (l : List Int), Ages l → lookSets n left l = (allSets n l).filter (fun s => decide (prodL s = prodL l * left)) := by
  induction n with
  | zero =>
    intro left l hl
    have hp := prodL_pos l hl
    unfold lookSets allSets
    by_cases h : left = 1
    · rw [if_pos h]; simp [h]
    · rw [if_neg h]
      have : ¬ prodL l = prodL l * left := by
        intro e
        have e2 : prodL l * left = prodL l * 1 := by omega
        exact h (Int.eq_of_mul_eq_mul_left (by omega) e2)
      simp [this]
  | succ n ih =>
    intro left l hl
    have hf := hl.from_
    have hp := prodL_pos l hl
    rw [show allSets (n + 1) l = ((List.range (21 - fromOf l).toNat).map fun i : Nat => allSets n (l ++ [fromOf l + (i : Int)])).flatten from rfl, List.filter_flatten, List.map_map]
    show ((List.range (21 - fromOf l).toNat).map _).flatten = _
    congr 1
    apply List.map_congr_left
    intro i hi
    rw [List.mem_range] at hi
    have hA : Ages (l ++ [fromOf l + (i : Int)]) := hl.snoc (by omega) (by omega)
    simp only [Function.comp_apply]
    by_cases hm : left.tmod (fromOf l + (i : Int)) = 0
    · rw [if_pos hm, ih _ _ hA]
      have e := Int.mul_tdiv_add_tmod left (fromOf l + (i : Int))
      rw [hm, Int.add_zero] at e
      rw [prodL_snoc, Int.mul_assoc, e]
    · rw [if_neg hm]
      symm
      rw [List.filter_eq_nil_iff]
      intro s hs
      obtain ⟨k, hk⟩ := mem_allSets_prod n _ s hA hs
      simp only [decide_eq_true_eq]
      rw [hk, prodL_snoc, Int.mul_assoc]
      intro e
      have e2 := Int.eq_of_mul_eq_mul_left (by omega) e
      exact hm (by rw [← e2]; exact Int.mul_tmod_right _ _)
theorem look_all (n : Nat) (t : Int) : lookSets n t [] = (allSets n []).filter (hasProd t) := by
  rw [look_eq n t [] (fun x hx => by simp at hx)]
  congr 1
  funext s
  show decide (prodL s = 1 * t) = decide (prodL s = t)
  rw [Int.one_mul]
theorem siChildren_val (c p : Int) : spec_siChildren.f c p = some (decide (1 ≤ c ∧ c ≤ 4 ∧ 1 ≤ p ∧ p ≤ 160000)) := by
  unfold spec_siChildren.f
  rw [l1In_val, Option.bind_some]
  by_cases h : 1 ≤ c ∧ c ≤ 4
  · rw [decide_eq_true h, if_pos rfl, l1In_val]; simp [h]
  · rw [decide_eq_false h, if_neg (by simp)]; simp; omega
theorem siSets_val (c p : Int) (h : 1 ≤ c ∧ c ≤ 4 ∧ 1 ≤ p ∧ p ≤ 160000) : spec_siSets.f c p = some ((allSets c.toNat []).filter (hasProd p)) := by
  unfold spec_siSets.f
  rw [if_pos (by omega), look_all]
end Go.Proofs.Ytebidfogkjidaaa.Pure
