/- Chapter 4, plain: the open sums of a list of sets. No condition beyond those typed at each lemma. -/
import Derived.Test.YtebidfogkjidaaaC4Mark
import Derived.Test.YtebidfogkjidaaaC4Sets
import Derived.Test.YtebidfogkjidaaaC4Sort
import Derived.Test.YtebidfogkjidaaaE10
import Derived.Test.YtebidfogkjidaaaE18
import Derived.Test.YtebidfogkjidaaaE19
import Derived.Test.YtebidfogkjidaaaE20
import Derived.Test.YtebidfogkjidaaaE3
import Derived.Test.YtebidfogkjidaaaE9
namespace Go.Proofs.Ytebidfogkjidaaa.Pure
open Go.RowKit Go.Proofs.Ytebidfogkjidaaa.E Go.Proofs.YtebidfogkjidaaaW.PrintWords Go.Proofs.YtebidfogkjidaaaW.PrintLast
set_option linter.unusedVariables false
set_option linter.unusedSimpArgs false

theorem sumFold : ∀ (l : List Int) (acc : Int), Ages l → acc ≤ l.foldl (· + ·) acc ∧ l.foldl (· + ·) acc ≤ acc + 20 * (l.length : Int)
  | [], acc, _ => by simp
  | x :: r, acc, h => by
    have hx := h x (List.mem_cons_self ..)
    have ih := sumFold r (acc + x) (fun y hy => h y (List.mem_cons_of_mem _ hy))
    rw [List.foldl_cons, List.length_cons]
    omega
theorem sum_in {l : List Int} (h : Ages l) (h4 : l.length ≤ 4) : 0 ≤ sumL l ∧ sumL l ≤ 80 := by
  have := sumFold l 0 h
  unfold sumL
  omega
theorem ev_total (l : List Int) (hl : l.length ≤ 4) (ha : Ages l) : Ev (fun k => impl_total.f k l) (sumL l) := Ev.of (impl_total.mono l) (total_is l hl ha)
theorem sumsOf_loop (xs : List (List Int)) (hk : SetsOk xs) (d : Nat) : ∀ (i : Nat) (acc : List Int), xs.length - i = d → i ≤ xs.length → acc.length + d ≤ 200000 → Ev (fun k => impl_sumsOf.l0 k acc xs (xs.length : Int) (i : Int)) (acc ++ (xs.drop i).map sumL) := by
  induction d with
  | zero =>
    intro i acc hd hi hl
    obtain rfl : i = xs.length := by omega
    rw [List.drop_of_length_le (Nat.le_refl _), List.map_nil, List.append_nil]
    exact Ev.step (f := fun _ => some acc) (fun k => by rw [impl_sumsOf.l0, if_neg (by omega)]) (Ev.now _)
  | succ d ih =>
    intro i acc hd hi hl
    have hlt : i < xs.length := by omega
    have c1 : (i : Int) < (xs.length : Int) := Int.ofNat_lt.2 hlt
    have c2 : acc.length < 17592186044416 := by omega
    have e1 : wrap64 ((i : Int) + 1) = ((i + 1 : Nat) : Int) := w_succ i xs.length hlt (by have := hk.2; omega)
    obtain ⟨h1, h2⟩ := hk.1 xs[i] (List.getElem_mem hlt)
    have ih1 := ih (i + 1) (acc ++ [sumL xs[i]]) (by omega) (by omega) (by rw [List.length_append, List.length_singleton]; omega)
    have e : acc ++ (xs.drop i).map sumL = (acc ++ [sumL xs[i]]) ++ (xs.drop (i + 1)).map sumL := by
      rw [List.drop_eq_getElem_cons hlt, List.map_cons, List.append_assoc, List.singleton_append]
    rw [e]
    refine Ev.step (fun k => by rw [impl_sumsOf.l0, if_pos c1, if_pos (Int.natCast_nonneg i), if_pos c1, row_is xs i hlt, e1]) ?_
    refine Ev.bind (ev_total xs[i] h2 h1) ?_
    simp only [if_pos c2]
    exact ih1
theorem ev_sumsOf (xs : List (List Int)) (hk : SetsOk xs) : Ev (fun k => impl_sumsOf.f k xs) (xs.map sumL) := by
  have := sumsOf_loop xs hk xs.length 0 [] (by omega) (by omega) (by have := hk.2; simpa using this)
  exact this
/-- How many sets have a sum. -/
def cntS (xs : List (List Int)) (v : Nat) : Nat := (xs.filter fun x => sumL x == (v : Int)).length
theorem cntS_le (xs : List (List Int)) (v : Nat) : cntS xs v ≤ xs.length := List.length_filter_le _ _
def sumsFrom (xs : List (List Int)) (many : Nat) : Nat → Nat → List Int
  | 0, _ => []
  | d + 1, i => if many ≤ cntS xs i then (i : Int) :: sumsFrom xs many d (i + 1) else sumsFrom xs many d (i + 1)
theorem sumsFrom_mem (xs : List (List Int)) (many : Nat) : ∀ (d i : Nat) (x : Int), x ∈ sumsFrom xs many d i ↔ ∃ v : Nat, i ≤ v ∧ v < i + d ∧ x = (v : Int) ∧ many ≤ cntS xs v
  | 0, i, x => by
    constructor
    · intro h; cases h
    · rintro ⟨v, h1, h2, _⟩; omega
  | d + 1, i, x => by
    have ih := sumsFrom_mem xs many d (i + 1) x
    unfold sumsFrom
    by_cases hm : many ≤ cntS xs i
    · rw [if_pos hm, List.mem_cons, ih]
      constructor
      · rintro (h | ⟨v, h1, h2, h3, h4⟩)
        · exact ⟨i, by omega, by omega, h, hm⟩
        · exact ⟨v, by omega, by omega, h3, h4⟩
      · rintro ⟨v, h1, h2, h3, h4⟩
        by_cases e : v = i
        · exact .inl (by rw [h3, e])
        · exact .inr ⟨v, by omega, by omega, h3, h4⟩
    · rw [if_neg hm, ih]
      constructor
      · rintro ⟨v, h1, h2, h3, h4⟩; exact ⟨v, by omega, by omega, h3, h4⟩
      · rintro ⟨v, h1, h2, h3, h4⟩
        by_cases e : v = i
        · exact absurd (e ▸ h4) hm
        · exact ⟨v, by omega, by omega, h3, h4⟩
theorem sumsFrom_pair (xs : List (List Int)) (many : Nat) : ∀ (d i : Nat), (sumsFrom xs many d i).Pairwise (· < ·)
  | 0, i => List.Pairwise.nil
  | d + 1, i => by
    unfold sumsFrom
    by_cases hm : many ≤ cntS xs i
    · rw [if_pos hm]
      refine List.pairwise_cons.2 ⟨fun y hy => ?_, sumsFrom_pair xs many d (i + 1)⟩
      obtain ⟨v, h1, _, h3, _⟩ := (sumsFrom_mem xs many d (i + 1) y).1 hy
      omega
    · rw [if_neg hm]; exact sumsFrom_pair xs many d (i + 1)
theorem sumsFrom_len (xs : List (List Int)) (many : Nat) : ∀ (d i : Nat), (sumsFrom xs many d i).length ≤ d
  | 0, i => Nat.le_refl _
  | d + 1, i => by
    have := sumsFrom_len xs many d (i + 1)
    unfold sumsFrom
    split
    · rw [List.length_cons]; omega
    · omega
/-- In order, each once: the sums that some set has. -/
theorem sums_same (xs : List (List Int)) (hk : SetsOk xs) : Lib.compact ((xs.map sumL).mergeSort fun x y => decide (x ≤ y)) = sumsFrom xs 1 81 0 := by
  obtain ⟨h1, h2⟩ := distinct_is (xs.map sumL)
  refine strict_eq _ _ h1 (sumsFrom_pair xs 1 81 0) fun x => ?_
  rw [h2, sumsFrom_mem, List.mem_map]
  constructor
  · rintro ⟨s, hs, rfl⟩
    obtain ⟨q1, q2⟩ := hk.1 s hs
    have hin := sum_in q1 q2
    refine ⟨(sumL s).toNat, Nat.zero_le _, by omega, (Int.toNat_of_nonneg hin.1).symm, ?_⟩
    exact List.length_pos_of_mem (List.mem_filter.2 ⟨hs, by rw [Int.toNat_of_nonneg hin.1]; simp⟩)
  · rintro ⟨v, _, _, rfl, hc⟩
    obtain ⟨s, hs⟩ := List.exists_mem_of_length_pos hc
    obtain ⟨hs1, hs2⟩ := List.mem_filter.1 hs
    exact ⟨s, hs1, by simpa using hs2⟩
theorem okSetsO_of (xs : List (List Int)) (hk : SetsOk xs) : okSetsO xs = true := by
  unfold okSetsO
  refine Bool.and_eq_true_iff.2 ⟨decide_eq_true hk.2, List.all_eq_true.2 fun x hx => ?_⟩
  obtain ⟨h1, h2⟩ := hk.1 x hx
  refine Bool.and_eq_true_iff.2 ⟨decide_eq_true h2, List.all_eq_true.2 fun y hy => ?_⟩
  obtain ⟨h3, h4⟩ := h1 y hy
  exact Bool.and_eq_true_iff.2 ⟨decide_eq_true h3, decide_eq_true h4⟩
theorem open_same (xs : List (List Int)) : ((sumsFrom xs 1 81 0).filter fun t => !decide (((xs.filter (hasSum t)).length : Int) < 2)) = sumsFrom xs 2 81 0 := by
  refine strict_eq _ _ (List.Pairwise.filter _ (sumsFrom_pair xs 1 81 0)) (sumsFrom_pair xs 2 81 0) fun x => ?_
  rw [List.mem_filter, sumsFrom_mem, sumsFrom_mem]
  constructor
  · rintro ⟨⟨v, h1, h2, rfl, h3⟩, h4⟩
    refine ⟨v, h1, h2, rfl, ?_⟩
    have h5 : ¬ (((xs.filter (hasSum (v : Int))).length : Int) < 2) := by simpa using h4
    have e : (xs.filter (hasSum (v : Int))).length = cntS xs v := rfl
    rw [e] at h5
    omega
  · rintro ⟨v, h1, h2, rfl, h3⟩
    refine ⟨⟨v, h1, h2, rfl, by omega⟩, ?_⟩
    have e : (xs.filter (hasSum (v : Int))).length = cntS xs v := rfl
    rw [e]
    have h5 : ¬ ((cntS xs v : Int) < 2) := by omega
    simpa using h5
theorem ev_openSums (xs : List (List Int)) (hk : SetsOk xs) : Ev (fun k => impl_openSums.f k xs) (sumsFrom xs 2 81 0) := by
  unfold impl_openSums.f
  simp only [if_pos (okSetsO_of xs hk)]
  refine Ev.bind (ev_sumsOf xs hk) ?_
  have : impl_distinct.f (xs.map sumL) = some (sumsFrom xs 1 81 0) := by
    unfold impl_distinct.f
    rw [if_pos (by rw [List.length_map]; exact hk.2), sums_same xs hk]
  rw [this]
  simp only [Option.bind_some, open_same]
  exact Ev.now _
end Go.Proofs.Ytebidfogkjidaaa.Pure
