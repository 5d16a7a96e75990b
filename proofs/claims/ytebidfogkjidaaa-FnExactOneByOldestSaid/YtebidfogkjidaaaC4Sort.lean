/- Chapter 4, plain: lists in order, each number once. No condition beyond those typed at each lemma. -/
import Derived.Test.YtebidfogkjidaaaE0
import Derived.Lib.SlicesCompact
namespace Go.Proofs.Ytebidfogkjidaaa.Pure
open Go.RowKit Go.Proofs.Ytebidfogkjidaaa.E Go.Proofs.YtebidfogkjidaaaW.PrintWords Go.Proofs.YtebidfogkjidaaaW.PrintLast
set_option linter.unusedVariables false
set_option linter.unusedSimpArgs false

theorem strict_eq : ∀ (a b : List Int), a.Pairwise (· < ·) → b.Pairwise (· < ·) → (∀ x, x ∈ a ↔ x ∈ b) → a = b
  | [], [], _, _, _ => rfl
  | [], y :: b, _, _, h => absurd ((h y).2 (List.mem_cons_self ..)) (by simp)
  | x :: a, [], _, _, h => absurd ((h x).1 (List.mem_cons_self ..)) (by simp)
  | x :: a, y :: b, ha, hb, h => by
    obtain ⟨ha1, ha2⟩ := List.pairwise_cons.1 ha
    obtain ⟨hb1, hb2⟩ := List.pairwise_cons.1 hb
    have e : x = y := by
      rcases List.mem_cons.1 ((h x).1 (List.mem_cons_self ..)) with e | hx
      · exact e
      · rcases List.mem_cons.1 ((h y).2 (List.mem_cons_self ..)) with e | hy
        · exact e.symm
        · have h1 := hb1 x hx
          have h2 := ha1 y hy
          omega
    subst e
    rw [strict_eq a b ha2 hb2 (fun z => ?_)]
    constructor
    · intro hz
      rcases List.mem_cons.1 ((h z).1 (List.mem_cons_of_mem _ hz)) with e | hz2
      · have := ha1 z hz; omega
      · exact hz2
    · intro hz
      rcases List.mem_cons.1 ((h z).2 (List.mem_cons_of_mem _ hz)) with e | hz2
      · have := hb1 z hz; omega
      · exact hz2
theorem compactUp (d : Array Int) (hs : ∀ i j, i ≤ j → j < d.size → d[i]! ≤ d[j]!) : ∀ m, m ≤ d.size → (∀ x ∈ Lib.compactUpTo d m, ∃ j, j < m ∧ x = d[j]!) ∧ (∀ j, j < m → d[j]! ∈ Lib.compactUpTo d m) ∧ (Lib.compactUpTo d m).Pairwise (· < ·)
  | 0, _ => ⟨fun x hx => by simp [Lib.compactUpTo] at hx, fun j hj => absurd hj (Nat.not_lt_zero _), by simp [Lib.compactUpTo]⟩
  | m + 1, hm => by
    obtain ⟨h1, h2, h3⟩ := compactUp d hs m (by omega)
    rw [Lib.compactUpTo_succ]
    cases hk : Lib.keeps d m with
    | true =>
      rw [if_pos rfl]
      have hne : m = 0 ∨ d[m]! ≠ d[m - 1]! := of_decide_eq_true hk
      refine ⟨fun x hx => ?_, fun j hj => ?_, ?_⟩
      · rcases List.mem_append.1 hx with hx | hx
        · obtain ⟨j, hj, e⟩ := h1 x hx
          exact ⟨j, by omega, e⟩
        · exact ⟨m, by omega, List.mem_singleton.1 hx⟩
      · by_cases e : j = m
        · subst e; exact List.mem_append_right _ (List.mem_singleton.2 rfl)
        · exact List.mem_append_left _ (h2 j (by omega))
      · refine List.pairwise_append.2 ⟨h3, List.pairwise_singleton _ _, fun x hx y hy => ?_⟩
        obtain ⟨j, hj, e⟩ := h1 x hx
        have e2 := List.mem_singleton.1 hy
        have hle := hs j (m - 1) (by omega) (by omega)
        have hle2 := hs (m - 1) m (by omega) (by omega)
        rw [e, e2]
        rcases hne with h0 | hne
        · omega
        · omega
    | false =>
      rw [if_neg (by simp), List.append_nil]
      have hk2 : ¬ (m = 0 ∨ d[m]! ≠ d[m - 1]!) := of_decide_eq_false hk
      refine ⟨fun x hx => ?_, fun j hj => ?_, h3⟩
      · obtain ⟨j, hj, e⟩ := h1 x hx
        exact ⟨j, by omega, e⟩
      · by_cases e : j = m
        · have hm0 : m ≠ 0 := fun h => hk2 (.inl h)
          have he : d[m]! = d[m - 1]! := Classical.byContradiction fun h => hk2 (.inr h)
          rw [e, he]
          exact h2 (m - 1) (by omega)
        · exact h2 j (by omega)
theorem compact_sorted (l : List Int) (h : l.Pairwise (· ≤ ·)) : (Lib.compact l).Pairwise (· < ·) ∧ ∀ x, x ∈ Lib.compact l ↔ x ∈ l := by
  have hs : ∀ i j, i ≤ j → j < l.toArray.size → l.toArray[i]! ≤ l.toArray[j]! := by
    intro i j hij hj
    have hj2 : j < l.length := by simpa using hj
    have e : ∀ k (hk : k < l.length), l.toArray[k]! = l[k] := fun k hk => by simp [getElem!_pos, hk]
    rw [e i (by omega), e j hj2]
    by_cases he : i = j
    · subst he; exact Int.le_refl _
    · exact List.pairwise_iff_getElem.1 h i j (by omega) hj2 (by omega)
  obtain ⟨h1, h2, h3⟩ := compactUp l.toArray hs l.length (by simp)
  refine ⟨h3, fun x => ⟨fun hx => ?_, fun hx => ?_⟩⟩
  · obtain ⟨j, hj, e⟩ := h1 x hx
    rw [e]
    simp [getElem!_pos, hj]
  · obtain ⟨j, hj, e⟩ := List.mem_iff_getElem.1 hx
    have := h2 j hj
    rwa [show l.toArray[j]! = x by simp [getElem!_pos, hj, e]] at this
theorem distinct_is (l : List Int) : (Lib.compact (l.mergeSort fun x y => decide (x ≤ y))).Pairwise (· < ·) ∧ ∀ x, x ∈ Lib.compact (l.mergeSort fun x y => decide (x ≤ y)) ↔ x ∈ l := by
  have h := List.pairwise_mergeSort (le := fun x y : Int => decide (x ≤ y)) (fun a b c h1 h2 => by simp at *; omega) (fun a b => by simp; omega) l
  have h2 : (l.mergeSort fun x y => decide (x ≤ y)).Pairwise (· ≤ ·) := h.imp (fun h => of_decide_eq_true h)
  obtain ⟨h3, h4⟩ := compact_sorted _ h2
  exact ⟨h3, fun x => (h4 x).trans List.mem_mergeSort⟩
end Go.Proofs.Ytebidfogkjidaaa.Pure
