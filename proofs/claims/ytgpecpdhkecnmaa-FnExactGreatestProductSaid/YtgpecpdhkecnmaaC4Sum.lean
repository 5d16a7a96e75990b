/- Chapter 4, plain: the sets of a sum whose children are apart are the sets of so many children with that sum and so apart, in order. No condition beyond those typed at each lemma. -/
import Derived.Test.YtgpecpdhkecnmaaC4In
import Derived.Test.YtgpecpdhkecnmaaE1
import Derived.Test.YtgpecpdhkecnmaaE3
import Derived.Test.YtgpecpdhkecnmaaE4
import Derived.Test.YtgpecpdhkecnmaaE9
namespace Go.Proofs.Ytgpecpdhkecnmaa.Pure
open Go.RowKit Go.Proofs.Ytgpecpdhkecnmaa.E Go.Proofs.YtgpecpdhkecnmaaW.PrintWords Go.Proofs.YtgpecpdhkecnmaaW.PrintLast
set_option linter.unusedVariables false
set_option linter.unusedSimpArgs false

/-- Each number is so far above the one before it. -/
def chainB (ap : Int) : List Int → Bool
  | a :: b :: r => decide (a + ap ≤ b) && chainB ap (b :: r)
  | _ => true
theorem chainB_snoc (ap a : Int) : ∀ l : List Int, chainB ap (l ++ [a]) = (chainB ap l && (decide (l.length = 0) || decide (fromOf l + ap ≤ a)))
  | [] => rfl
  | [x] => by
    show (decide (x + ap ≤ a) && true) = (true && (decide ((1 : Nat) = 0) || decide (fromOf [x] + ap ≤ a)))
    rw [show fromOf [x] = x from rfl]
    simp
  | x :: y :: r => by
    have h := chainB_snoc ap a (y :: r)
    have e : fromOf (x :: y :: r) = fromOf (y :: r) := by simp [fromOf]
    show (decide (x + ap ≤ y) && chainB ap ((y :: r) ++ [a])) = _
    rw [h, e]
    show _ = ((decide (x + ap ≤ y) && chainB ap (y :: r)) && _)
    rw [Bool.and_assoc]
    congr 1
theorem sumL_snoc (l : List Int) (a : Int) : sumL (l ++ [a]) = sumL l + a := by simp [sumL]
theorem mem_allSets (n : Nat) : ∀ (l s : List Int), Ages l → s ∈ allSets n l → sumL l ≤ sumL s ∧ ∀ ap, chainB ap s = true → chainB ap l = true := by
  induction n with
  | zero =>
    intro l s _ hs
    obtain rfl : s = l := by simpa [allSets] using hs
    exact ⟨Int.le_refl _, fun _ h => h⟩
  | succ n ih =>
    intro l s hl hs
    have hf := hl.from_
    simp only [allSets, List.mem_flatten, List.mem_map, List.mem_range] at hs
    obtain ⟨_, ⟨i, hi, rfl⟩, hs⟩ := hs
    obtain ⟨h1, h2⟩ := ih _ s (hl.snoc (by omega) (by omega)) hs
    rw [sumL_snoc] at h1
    refine ⟨by omega, fun ap h => ?_⟩
    have h3 := h2 ap h
    rw [chainB_snoc] at h3
    simp only [Bool.and_eq_true] at h3
    exact h3.1
theorem flat_nil {α : Type} (N : Nat) (g : Nat → List α) (h : ∀ j, j < N → g j = []) : ((List.range N).map g).flatten = [] := by
  induction N with
  | zero => rfl
  | succ N ih =>
    rw [List.range_succ, List.map_append, List.flatten_append, ih (fun j hj => h j (by omega))]
    simp [h N (by omega)]
theorem flat_add {α : Type} (a b : Nat) (g : Nat → List α) : ((List.range (a + b)).map g).flatten = ((List.range a).map g).flatten ++ ((List.range b).map fun i => g (a + i)).flatten := by
  induction b with
  | zero => simp
  | succ b ih =>
    rw [← Nat.add_assoc, List.range_succ, List.map_append, List.flatten_append, ih, List.range_succ, List.map_append, List.flatten_append]
    simp
theorem flat_part {α : Type} (N d m : Nat) (g : Nat → List α) (hm : m = 0 ∨ d + m ≤ N) (h : ∀ j, j < N → (j < d ∨ d + m ≤ j) → g j = []) : ((List.range N).map g).flatten = ((List.range m).map fun i => g (d + i)).flatten := by
  rcases hm with rfl | hm
  · rw [flat_nil N g (fun j hj => h j hj (by omega))]; rfl
  · obtain ⟨r, rfl⟩ : ∃ r, N = d + (m + r) := ⟨N - d - m, by omega⟩
    rw [flat_add, flat_nil d g (fun j hj => h j (by omega) (by omega)), flat_add, flat_nil r _ (fun j hj => h _ (by omega) (by omega))]
    simp
theorem bySum_eq (n : Nat) : ∀ (left : Int) (l : List Int) (ap : Int), Ages l → 0 ≤ ap → chainB ap l = true →
    bySum n left ap l = (allSets n l).filter (fun s => chainB ap s && decide (sumL s = sumL l + left)) := by
  induction n with
  | zero =>
    intro left l ap hl h0 hc
    unfold bySum allSets
    by_cases h : left = 0
    · rw [if_pos h]; simp [hc, h]
    · rw [if_neg h]; simp [hc]; omega
  | succ n ih =>
    intro left l ap hl h0 hc
    have hf := hl.from_
    have hd : ∃ d : Nat, fromA ap l = fromOf l + (d : Int) ∧ ∀ a : Int, fromOf l ≤ a → (chainB ap (l ++ [a]) = true ↔ fromOf l + (d : Int) ≤ a) := by
      unfold fromA
      by_cases hz : l.length = 0
      · refine ⟨0, ?_, fun a ha => ?_⟩
        · rw [if_pos hz, List.eq_nil_of_length_eq_zero hz]; rfl
        · rw [chainB_snoc, hc]; simp [hz]; omega
      · refine ⟨ap.toNat, ?_, fun a ha => ?_⟩
        · rw [if_neg hz]; omega
        · rw [chainB_snoc, hc]
          have hz2 : l ≠ [] := fun e => hz (by rw [e]; rfl)
          simp [hz2]
          have : ((ap.toNat : Nat) : Int) = ap := by omega
          omega
    obtain ⟨d, hA, hch⟩ := hd
    show ((List.range (cntA ap left l)).map _).flatten = _
    rw [show allSets (n + 1) l = ((List.range (21 - fromOf l).toNat).map fun i : Nat => allSets n (l ++ [fromOf l + (i : Int)])).flatten from rfl]
    rw [List.filter_flatten, List.map_map]
    have hcn : cntA ap left l = (min 20 left - fromA ap l + 1).toNat := rfl
    rw [flat_part (21 - fromOf l).toNat d (cntA ap left l) _ (by omega)]
    · congr 1
      apply List.map_congr_left
      intro i hi
      rw [List.mem_range] at hi
      have hle : fromOf l + ((d + i : Nat) : Int) ≤ 20 := by omega
      have e1 : fromA ap l + (i : Int) = fromOf l + ((d + i : Nat) : Int) := by omega
      simp only [Function.comp_apply]
      rw [e1, ih _ _ _ (hl.snoc (by omega) hle) h0 ((hch _ (by omega)).2 (by omega))]
      congr 1
      funext s
      rw [sumL_snoc]
      congr 2
      apply propext
      constructor <;> intro h <;> omega
    · intro j hj hout
      simp only [Function.comp_apply]
      rw [List.filter_eq_nil_iff]
      intro s hs
      have hle : fromOf l + (j : Int) ≤ 20 := by omega
      obtain ⟨h1, h2⟩ := mem_allSets n _ s (hl.snoc (by omega) hle) hs
      rw [sumL_snoc] at h1
      simp only [Bool.and_eq_true, decide_eq_true_eq, not_and]
      intro hcs hss
      have h3 := (hch _ (by omega)).1 (h2 ap hcs)
      omega
/-- All sets are in order. -/
theorem chain0 (n : Nat) : ∀ (l s : List Int), Ages l → chainB 0 l = true → s ∈ allSets n l → chainB 0 s = true := by
  induction n with
  | zero =>
    intro l s _ hc hs
    obtain rfl : s = l := by simpa [allSets] using hs
    exact hc
  | succ n ih =>
    intro l s hl hc hs
    have hf := hl.from_
    simp only [allSets, List.mem_flatten, List.mem_map, List.mem_range] at hs
    obtain ⟨_, ⟨i, hi, rfl⟩, hs⟩ := hs
    refine ih _ s (hl.snoc (by omega) (by omega)) ?_ hs
    rw [chainB_snoc, hc]
    simp
    omega
theorem ages_nil : Ages [] := fun x hx => by simp at hx
theorem bySum_all (n : Nat) (t : Int) : bySum n t 0 [] = (allSets n []).filter (hasSum t) := by
  rw [bySum_eq n t [] 0 ages_nil (by omega) rfl]
  apply List.filter_congr
  intro s hs
  rw [chain0 n [] s ages_nil rfl hs]
  show (true && decide (sumL s = 0 + t)) = decide (sumL s = t)
  rw [Int.zero_add, Bool.true_and]
theorem siSum_val (c s : Int) : spec_siSum.f c s = some (decide (1 ≤ c ∧ c ≤ 4 ∧ 1 ≤ s ∧ s ≤ 80)) := by
  unfold spec_siSum.f
  rw [l1In_val, Option.bind_some]
  by_cases h : 1 ≤ c ∧ c ≤ 4
  · rw [decide_eq_true h, if_pos rfl, l1In_val]; simp [h]
  · rw [decide_eq_false h, if_neg (by simp)]; simp; omega
end Go.Proofs.Ytgpecpdhkecnmaa.Pure
