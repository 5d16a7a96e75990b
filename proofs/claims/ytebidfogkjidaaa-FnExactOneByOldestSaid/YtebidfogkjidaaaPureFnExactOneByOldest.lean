/- The program's OneByOldest returns what the reference's returns, for all arguments, in memory of the call's own. No condition. -/
import Derived.Test.YtebidfogkjidaaaC4In
import Derived.Test.YtebidfogkjidaaaC4Mark
import Derived.Test.YtebidfogkjidaaaC4Open
import Derived.Test.YtebidfogkjidaaaC4Prod
import Derived.Test.YtebidfogkjidaaaC4Sets
import Derived.Test.YtebidfogkjidaaaC4Told1
import Derived.Test.YtebidfogkjidaaaE1
import Derived.Test.YtebidfogkjidaaaE13
import Derived.Test.YtebidfogkjidaaaE14
import Derived.Test.YtebidfogkjidaaaE16
import Derived.Test.YtebidfogkjidaaaE24
import Derived.Test.YtebidfogkjidaaaE26
namespace Go.Proofs.Ytebidfogkjidaaa.Pure
open Go.RowKit Go.Proofs.Ytebidfogkjidaaa.E Go.Proofs.YtebidfogkjidaaaW.PrintWords Go.Proofs.YtebidfogkjidaaaW.PrintLast
set_option linter.unusedVariables false
set_option linter.unusedSimpArgs false

theorem w64p {x : Int} (h0 : -9223372036854775808 ≤ x) (h1 : x ≤ 9223372036854775807) : wrap64 x = x := by unfold wrap64; omega
theorem siRange_val (c fr tt : Int) : spec_siRange.f c fr tt = some (lotsOk c fr tt) := by
  unfold spec_siRange.f lotsOk
  rw [siChildren_val, Option.bind_some]
  by_cases h1 : 1 ≤ c ∧ c ≤ 4 ∧ 1 ≤ tt ∧ tt ≤ 160000
  · rw [decide_eq_true h1, if_pos rfl, l1In_val, Option.bind_some]
    by_cases h2 : 1 ≤ fr ∧ fr ≤ tt
    · rw [decide_eq_true h2, if_pos rfl, w64p (by omega) (by omega), decide_eq_true (show 1 ≤ c ∧ c ≤ 4 by omega), decide_eq_true (show 1 ≤ fr ∧ fr ≤ 160000 by omega), decide_eq_true (show fr ≤ tt ∧ tt ≤ 160000 by omega)]
      rfl
    · rw [decide_eq_false h2, if_neg (by simp)]
      have : (decide (1 ≤ fr ∧ fr ≤ 160000) && (decide (fr ≤ tt ∧ tt ≤ 160000) && decide (tt - fr ≤ 1000))) = false := by
        by_cases h3 : 1 ≤ fr
        · rw [decide_eq_false (show ¬ (fr ≤ tt ∧ tt ≤ 160000) by omega), Bool.false_and, Bool.and_false]
        · rw [decide_eq_false (show ¬ (1 ≤ fr ∧ fr ≤ 160000) by omega), Bool.false_and]
      rw [this, Bool.and_false]
  · rw [decide_eq_false h1, if_neg (by simp)]
    have : (decide (1 ≤ c ∧ c ≤ 4) && (decide (1 ≤ fr ∧ fr ≤ 160000) && (decide (fr ≤ tt ∧ tt ≤ 160000) && decide (tt - fr ≤ 1000)))) = false := by
      rw [← Bool.not_eq_true]
      intro h
      simp only [Bool.and_eq_true, decide_eq_true_eq] at h
      omega
    rw [this]
/-- The products among the first n for which one set is told. -/
def oneP (c : Nat) (fr : Int) : Nat → List Int
  | 0 => []
  | n + 1 => oneP c fr n ++ if (toldS true (lotX c fr n)).length = 1 then [fr + (n : Int)] else []
theorem oneP_len (c : Nat) (fr : Int) : ∀ n, (oneP c fr n).length ≤ n
  | 0 => Nat.le_refl _
  | n + 1 => by
    have ih := oneP_len c fr n
    show (oneP c fr n ++ _).length ≤ _
    rw [List.length_append]
    split <;> simp <;> omega
theorem ev_oneI (c : Nat) (h1 : 1 ≤ c) (h4 : c ≤ 4) (fr : Int) : ∀ n, Ev (fun k => oneI k c fr n) (oneP c fr n)
  | 0 => Ev.now _
  | n + 1 => by
    have hk : SetsOk (lotX c fr n) := part_ok c h4 (hasProd (fr + (n : Int)))
    have hpw := sumsFrom_pair (lotX c fr n) 2 81 0
    have hnd : (sumsFrom (lotX c fr n) 2 81 0).Nodup := List.Pairwise.imp (fun h => Int.ne_of_lt h) hpw
    have hl : (sumsFrom (lotX c fr n) 2 81 0).length ≤ 200000 := Nat.le_trans (sumsFrom_len _ 2 81 0) (by decide)
    have hlen := told_len true (lotX c fr n) _ hnd (open_mem _ hk)
    simp only [oneI, oneP]
    refine Ev.bind (ev_oneI c h1 h4 fr n) (Ev.bind (ev_openSums _ hk) ?_)
    rw [if_pos hl, hlen]
    exact Ev.now _
theorem oneS_is (c fr : Int) (hc : 1 ≤ c ∧ c ≤ 4) (hf : 1 ≤ fr) : ∀ n : Nat, fr + (n : Int) ≤ 160001 → oneS c fr n = some (oneP c.toNat fr n)
  | 0, _ => rfl
  | n + 1, h => by
    have h2 : 1 ≤ c ∧ c ≤ 4 ∧ 1 ≤ fr + (n : Int) ∧ fr + (n : Int) ≤ 160000 := by omega
    simp only [oneS, oneP]
    rw [oneS_is c fr hc hf n (by omega), Option.bind_some, siSets_val c _ h2, Option.bind_some, if_pos (okTold_part c.toNat (by omega) (by omega) _)]
    rfl
theorem both_OneByOldest (c fr tt : Int) : ∃ r : List Int × Bool, spec_OneByOldest.f c fr tt = some r ∧ Ev (fun k => impl_OneByOldest.f k c fr tt) r ∧ r.1.length ≤ 160000 := by
  unfold spec_OneByOldest.f impl_OneByOldest.f
  rw [siRange_val, Option.bind_some]
  cases hp : lotsOk c fr tt with
  | false =>
    rw [if_neg (by simp)]
    refine ⟨([], false), rfl, ?_, by simp⟩
    rw [show (fun k : Nat => if false = true then (oneI k c.toNat fr (tt - fr + 1).toNat).bind fun l => some (l, true) else some (([] : List Int), false)) = fun _ => some ([], false) from rfl]
    exact Ev.now _
  | true =>
    have hk : 1 ≤ c ∧ c ≤ 4 ∧ 1 ≤ fr ∧ fr ≤ 160000 ∧ fr ≤ tt ∧ tt ≤ 160000 := by
      unfold lotsOk at hp
      simp only [Bool.and_eq_true, decide_eq_true_eq] at hp
      omega
    rw [if_pos rfl, if_pos (show 0 ≤ tt - fr + 1 ∧ 0 ≤ fr ∧ fr ≤ 160000 ∧ tt ≤ 160000 by omega), oneS_is c fr (by omega) (by omega) _ (by omega), Option.bind_some]
    refine ⟨(oneP c.toNat fr (tt - fr + 1).toNat, true), rfl, ?_, ?_⟩
    · simp only [if_true]
      exact Ev.bind (ev_oneI c.toNat (by omega) (by omega) fr _) (Ev.now _)
    · have := oneP_len c.toNat fr (tt - fr + 1).toNat
      show (oneP c.toNat fr (tt - fr + 1).toNat).length ≤ 160000
      omega
theorem FnExactOneByOldest : laws_FnExactOneByOldest.Pure := by
  intro c fr tt hc hf ht
  refine Ev.rounds ?_
  unfold laws_FnExactOneByOldest.f
  obtain ⟨⟨r1, r2⟩, h1, h2, h8⟩ := both_OneByOldest c fr tt
  simp only at h8
  simp only [h1, Option.bind_some]
  refine Ev.bind h2 ?_
  refine Ev.bind (ev_eqIntS r1 (by omega)) ?_
  simp only [if_true, bne_self_eq_false]
  refine Ev.step (fun k => by rw [laws_FnExactOneByOldest.j0, if_neg (by simp)]) ?_
  obtain ⟨x', hx, hxl, hxr⟩ := ev_markIntS r1 (by omega)
  refine Ev.bind hx ?_
  have hheld := ev_heldIntS x' (by omega) (by rw [hxl]; exact hxr)
  rw [hxl] at hheld
  refine Ev.bind hheld ?_
  simp only [if_neg (show ¬ (1 + (r1.length : Int) < 0) by omega), if_true]
  refine Ev.bind h2 ?_
  refine Ev.bind (ev_eqIntS r1 (by omega)) ?_
  simp only [if_true, bne_self_eq_false]
  refine Ev.step (fun k => by rw [laws_FnExactOneByOldest.j1, if_neg (by simp)]) ?_
  refine Ev.bind hheld ?_
  simp only [if_neg (show ¬ (1 + (r1.length : Int) < 0) by omega), if_true]
  exact Ev.now _
end Go.Proofs.Ytebidfogkjidaaa.Pure
