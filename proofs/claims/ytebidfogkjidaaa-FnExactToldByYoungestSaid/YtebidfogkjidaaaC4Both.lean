/- Chapter 4, plain: the sets of a product and a sum, as the reference finds them. No condition beyond those typed at each lemma. -/
import Derived.Test.YtebidfogkjidaaaE12
import Derived.Test.YtebidfogkjidaaaE3
import Derived.Test.YtebidfogkjidaaaE9
namespace Go.Proofs.Ytebidfogkjidaaa.Pure
open Go.RowKit Go.Proofs.Ytebidfogkjidaaa.E Go.Proofs.YtebidfogkjidaaaW.PrintWords Go.Proofs.YtebidfogkjidaaaW.PrintLast
set_option linter.unusedVariables false
set_option linter.unusedSimpArgs false

theorem okSets_part (c : Nat) (h : c ≤ 4) (q : List Int → Bool) : okSets ((allSets c []).filter q) = true := by
  unfold okSets
  refine Bool.and_eq_true_iff.2 ⟨decide_eq_true ?_, List.all_eq_true.2 fun x hx => ?_⟩
  · have h1 := List.length_filter_le q (allSets c [])
    have h2 := allSets_len c [] (fun x hx => by simp at hx)
    have h3 : 20 ^ c ≤ 20 ^ 4 := Nat.pow_le_pow_right (by omega) h
    omega
  · have := allSets_ages c [] x (fun y hy => by simp at hy) (List.mem_filter.1 hx).1
    refine Bool.and_eq_true_iff.2 ⟨decide_eq_true ?_, List.all_eq_true.2 fun y hy => ?_⟩
    · have h2 := this.2
      simp at h2
      omega
    · have h3 := this.1 y hy
      exact Bool.and_eq_true_iff.2 ⟨decide_eq_true h3.1, decide_eq_true h3.2⟩
end Go.Proofs.Ytebidfogkjidaaa.Pure
