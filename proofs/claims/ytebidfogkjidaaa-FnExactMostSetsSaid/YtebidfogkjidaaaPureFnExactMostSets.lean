/- The program's MostSets returns what the reference's returns, for all arguments. No condition. -/
import Derived.Test.YtebidfogkjidaaaC4In
import Derived.Test.YtebidfogkjidaaaC4Prod
import Derived.Test.YtebidfogkjidaaaE1
import Derived.Test.YtebidfogkjidaaaE3
import Derived.Test.YtebidfogkjidaaaE6
import Derived.Test.YtebidfogkjidaaaE7
import Derived.Test.YtebidfogkjidaaaE8
import Derived.Test.YtebidfogkjidaaaE9
namespace Go.Proofs.Ytebidfogkjidaaa.Pure
open Go.RowKit Go.Proofs.Ytebidfogkjidaaa.E Go.Proofs.YtebidfogkjidaaaW.PrintWords Go.Proofs.YtebidfogkjidaaaW.PrintLast
set_option linter.unusedVariables false
set_option linter.unusedSimpArgs false

theorem w64p {x : Int} (h0 : -9223372036854775808 ≤ x) (h1 : x ≤ 9223372036854775807) : wrap64 x = x := by unfold wrap64; omega
theorem siRange_val (c fr tt : Int) : spec_siRange.f c fr tt = some (lotsOk c fr tt) := by
  unfold spec_siRange.f lotsOk
  rw [siChildren_val, Option.bind_some]
  by_cases h1 : 1 ≤ c ∧ c ≤ 4 ∧ 1 ≤ tt ∧ tt ≤ 160000
  · rw [decide_eq_true h1, if_pos rfl, l1In_val, Option.bind_some]
    by_cases h2 : 1 ≤ fr ∧ fr ≤ tt
    · rw [decide_eq_true h2, if_pos rfl, w64p (by omega) (by omega), decide_eq_true (show 1 ≤ c ∧ c ≤ 4 by omega), decide_eq_true (show 1 ≤ fr ∧ fr ≤ 160000 by omega), decide_eq_true (show fr ≤ tt ∧ tt ≤ 160000 by omega)]
      rfl
    · rw [decide_eq_false h2, if_neg (by simp)]
      have : (decide (1 ≤ fr ∧ fr ≤ 160000) && (decide (fr ≤ tt ∧ tt ≤ 160000) && decide (tt - fr ≤ 1000))) = false := by
        by_cases h3 : 1 ≤ fr
        · rw [decide_eq_false (show ¬ (fr ≤ tt ∧ tt ≤ 160000) by omega), Bool.false_and, Bool.and_false]
        · rw [decide_eq_false (show ¬ (1 ≤ fr ∧ fr ≤ 160000) by omega), Bool.false_and]
      rw [this, Bool.and_false]
  · rw [decide_eq_false h1, if_neg (by simp)]
    have : (decide (1 ≤ c ∧ c ≤ 4) && (decide (1 ≤ fr ∧ fr ≤ 160000) && (decide (fr ≤ tt ∧ tt ≤ 160000) && decide (tt - fr ≤ 1000)))) = false := by
      rw [← Bool.not_eq_true]
      intro h
      simp only [Bool.and_eq_true, decide_eq_true_eq] at h
      omega
    rw [this]
theorem most_loop (c fr tt : Int) (N : Nat) (hc : 1 ≤ c ∧ c ≤ 4) (hf : 1 ≤ fr) (ht : tt ≤ 160000) (hN : (N : Int) = tt - fr + 1) (d : Nat) : ∀ i : Nat, N - i = d → i ≤ N →
    Ev (fun k => spec_MostSets.l0 k c tt (fr + ((mostAt (lotCount c.toNat fr) i : Nat) : Int)) (if i = 0 then -1 else (lotCount c.toNat fr (mostAt (lotCount c.toNat fr) i) : Int)) (fr + (i : Int)))
      (fr + ((mostAt (lotCount c.toNat fr) N : Nat) : Int), (if N = 0 then -1 else (lotCount c.toNat fr (mostAt (lotCount c.toNat fr) N) : Int)), true) := by
  induction d with
  | zero =>
    intro i hd hi
    obtain rfl : i = N := by omega
    exact Ev.step (f := fun _ => some _) (fun k => by rw [spec_MostSets.l0, if_neg (by omega)]) (Ev.now _)
  | succ d ih =>
    intro i hd hi
    have hs := ih (i + 1) (by omega) (by omega)
    refine Ev.step (fun k => ?_) hs
    rw [spec_MostSets.l0, if_pos (by omega), siSets_val c (fr + (i : Int)) (by omega), Option.bind_some, w64p (by omega) (by omega)]
    have e1 : (((allSets c.toNat []).filter (hasProd (fr + (i : Int)))).length : Int) = (lotCount c.toNat fr i : Int) := rfl
    have e2 : fr + (i : Int) + 1 = fr + ((i + 1 : Nat) : Int) := by omega
    have e3 : mostAt (lotCount c.toNat fr) (i + 1) = if lotCount c.toNat fr (mostAt (lotCount c.toNat fr) i) < lotCount c.toNat fr i then i else mostAt (lotCount c.toNat fr) i := rfl
    rw [e1, e2, if_neg (show ¬ i + 1 = 0 by omega), e3]
    by_cases h0 : i = 0
    · subst h0
      rw [if_pos rfl, if_pos (by omega)]
      have e4 : mostAt (lotCount c.toNat fr) 0 = 0 := rfl
      rw [e4, if_neg (Nat.lt_irrefl _)]
    · rw [if_neg h0]
      by_cases hlt : lotCount c.toNat fr (mostAt (lotCount c.toNat fr) i) < lotCount c.toNat fr i
      · rw [if_pos hlt, if_pos (by omega)]
      · rw [if_neg hlt, if_neg (by omega)]
theorem FnExactMostSets : laws_FnExactMostSets.Pure := by
  intro c fr tt hc hf ht
  refine Ev.rounds ?_
  unfold laws_FnExactMostSets.f
  have hev : Ev (fun k => spec_MostSets.f k c fr tt) (if lotsOk c fr tt = true then (fr + ((mostAt (lotCount c.toNat fr) (tt - fr + 1).toNat : Nat) : Int), (lotCount c.toNat fr (mostAt (lotCount c.toNat fr) (tt - fr + 1).toNat) : Int), true) else (0, 0, false)) := by
    unfold spec_MostSets.f
    rw [siRange_val]
    simp only [Option.bind_some]
    cases hp : lotsOk c fr tt with
    | false =>
      simp only [Bool.false_eq_true, if_false]
      exact Ev.now _
    | true =>
      simp only [if_true]
      have hk : 1 ≤ c ∧ c ≤ 4 ∧ 1 ≤ fr ∧ fr ≤ 160000 ∧ fr ≤ tt ∧ tt ≤ 160000 := by
        unfold lotsOk at hp
        simp only [Bool.and_eq_true, decide_eq_true_eq] at hp
        omega
      have h := most_loop c fr tt (tt - fr + 1).toNat (by omega) (by omega) (by omega) (by omega) _ 0 rfl (Nat.zero_le _)
      rw [if_pos rfl, if_neg (show ¬ (tt - fr + 1).toNat = 0 by omega)] at h
      have e : fr + ((mostAt (lotCount c.toNat fr) 0 : Nat) : Int) = fr := by show fr + ((0 : Nat) : Int) = fr; omega
      have e2 : fr + ((0 : Nat) : Int) = fr := by omega
      rw [e, e2] at h
      exact h
  refine Ev.bind hev ?_
  unfold impl_MostSets.f
  cases hp : lotsOk c fr tt with
  | false =>
    simp
    exact Ev.now _
  | true =>
    simp
    exact Ev.now _
end Go.Proofs.Ytebidfogkjidaaa.Pure
