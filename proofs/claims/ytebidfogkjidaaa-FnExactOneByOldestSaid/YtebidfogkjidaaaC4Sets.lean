/- Chapter 4, plain: sets of up to four children, within bounds. No condition beyond those typed at each lemma. -/
import Derived.Test.YtebidfogkjidaaaE0
import Derived.Test.YtebidfogkjidaaaE3
namespace Go.Proofs.Ytebidfogkjidaaa.Pure
open Go.RowKit Go.Proofs.Ytebidfogkjidaaa.E Go.Proofs.YtebidfogkjidaaaW.PrintWords Go.Proofs.YtebidfogkjidaaaW.PrintLast
set_option linter.unusedVariables false
set_option linter.unusedSimpArgs false

def SetsOk (xs : List (List Int)) : Prop := (∀ x ∈ xs, Ages x ∧ x.length ≤ 4) ∧ xs.length ≤ 200000
theorem row_is (xs : List (List Int)) (i : Nat) (h : i < xs.length) : rd_L1 xs (i : Int) = xs[i] := by
  simp [rd_L1, List.getD, List.getElem?_eq_getElem h]
theorem part_ok (c : Nat) (h : c ≤ 4) (q : List Int → Bool) : SetsOk ((allSets c []).filter q) := by
  refine ⟨fun x hx => ?_, ?_⟩
  · have key : ∀ (n : Nat) (l s : List Int), Ages l → s ∈ allSets n l → Ages s ∧ s.length = l.length + n := by
      intro n
      induction n with
      | zero =>
        intro l s hl hs
        obtain rfl : s = l := by simpa [allSets] using hs
        exact ⟨hl, rfl⟩
      | succ n ih =>
        intro l s hl hs
        have hf := hl.from_
        simp only [allSets, List.mem_flatten, List.mem_map, List.mem_range] at hs
        obtain ⟨_, ⟨i, hi, rfl⟩, hs⟩ := hs
        obtain ⟨h1, h2⟩ := ih _ s (hl.snoc (by omega) (by omega)) hs
        exact ⟨h1, by rw [h2]; simp; omega⟩
    have := key c [] x (fun y hy => by simp at hy) (List.mem_filter.1 hx).1
    exact ⟨this.1, by have := this.2; simp at this; omega⟩
  · have h1 := List.length_filter_le q (allSets c [])
    have h2 := allSets_len c [] (fun x hx => by simp at hx)
    have h3 : 20 ^ c ≤ 20 ^ 4 := Nat.pow_le_pow_right (by omega) h
    omega
end Go.Proofs.Ytebidfogkjidaaa.Pure
