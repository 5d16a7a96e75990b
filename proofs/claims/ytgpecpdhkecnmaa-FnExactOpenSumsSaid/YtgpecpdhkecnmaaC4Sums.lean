/- Chapter 4, plain: the sums of sets, gathered and counted. No condition beyond those typed at each lemma. -/
import Derived.Test.YtgpecpdhkecnmaaC4Mark
import Derived.Test.YtgpecpdhkecnmaaC4Sets
import Derived.Test.YtgpecpdhkecnmaaC4Sort
import Derived.Test.YtgpecpdhkecnmaaE10
import Derived.Test.YtgpecpdhkecnmaaE12
import Derived.Test.YtgpecpdhkecnmaaE13
import Derived.Test.YtgpecpdhkecnmaaE2
import Derived.Test.YtgpecpdhkecnmaaE3
import Derived.Test.YtgpecpdhkecnmaaE5
import Derived.Test.YtgpecpdhkecnmaaE9
namespace Go.Proofs.Ytgpecpdhkecnmaa.Pure
open Go.RowKit Go.Proofs.Ytgpecpdhkecnmaa.E Go.Proofs.YtgpecpdhkecnmaaW.PrintWords Go.Proofs.YtgpecpdhkecnmaaW.PrintLast
set_option linter.unusedVariables false
set_option linter.unusedSimpArgs false

theorem sumFold : ∀ (l : List Int) (acc : Int), Ages l → acc ≤ l.foldl (· + ·) acc ∧ l.foldl (· + ·) acc ≤ acc + 20 * (l.length : Int)
  | [], acc, _ => by simp
  | x :: r, acc, h => by
    have hx := h x (List.mem_cons_self ..)
    have ih := sumFold r (acc + x) (fun y hy => h y (List.mem_cons_of_mem _ hy))
    rw [List.foldl_cons, List.length_cons]
    omega
theorem sum_in {l : List Int} (h : Ages l) (h4 : l.length ≤ 4) : 0 ≤ sumL l ∧ sumL l ≤ 80 := by
  have := sumFold l 0 h
  unfold sumL
  omega
theorem agSum_on (l : List Int) (hl : l.length ≤ 4) (ha : Ages l) : ∀ (n i : Nat) (acc : Int), i + n = l.length → 0 ≤ acc → acc ≤ 20 * i → spec_agSum.l0 (n + 1) acc l (l.length : Int) (i : Int) = some ((l.drop i).foldl (· + ·) acc) := by
  intro n
  induction n with
  | zero =>
    intro i acc hi h0 h1
    have : ¬ ((i : Int) < (l.length : Int)) := by omega
    rw [spec_agSum.l0, if_neg this, List.drop_of_length_le (by omega)]
    rfl
  | succ n ih =>
    intro i acc hi h0 h1
    have hlt : i < l.length := by omega
    have hr : rd l (i : Int) = l[i] := by simp [rd, List.getD, List.getElem?_eq_getElem hlt]
    have hx := ha l[i] (List.getElem_mem hlt)
    rw [spec_agSum.l0, if_pos (by omega), if_pos (by omega), if_pos (by omega), hr, w64 (x := acc + l[i]) (by omega) (by omega), w64 (x := (i : Int) + 1) (by omega) (by omega)]
    have := ih (i + 1) (acc + l[i]) (by omega) (by omega) (by omega)
    rw [List.drop_eq_getElem_cons hlt, List.foldl_cons]
    exact_mod_cast this
theorem ev_agSum (l : List Int) (hl : l.length ≤ 4) (ha : Ages l) : Ev (fun k => spec_agSum.f k l) (sumL l) :=
  Ev.of (spec_agSum.mono l) (k := l.length + 1) (by unfold spec_agSum.f; exact agSum_on l hl ha l.length 0 0 (by omega) (by omega) (by simp))
theorem ev_total (l : List Int) (hl : l.length ≤ 4) (ha : Ages l) : Ev (fun k => impl_total.f k l) (sumL l) := Ev.of (impl_total.mono l) (total_is l hl ha)
theorem sumsOf_loop (xs : List (List Int)) (hk : SetsOk xs) (d : Nat) : ∀ (i : Nat) (acc : List Int), xs.length - i = d → i ≤ xs.length → acc.length + d ≤ 200000 → Ev (fun k => impl_sumsOf.l0 k acc xs (xs.length : Int) (i : Int)) (acc ++ (xs.drop i).map sumL) := by
  induction d with
  | zero =>
    intro i acc hd hi hl
    obtain rfl : i = xs.length := by omega
    rw [List.drop_of_length_le (Nat.le_refl _), List.map_nil, List.append_nil]
    exact Ev.step (f := fun _ => some acc) (fun k => by rw [impl_sumsOf.l0, if_neg (by omega)]) (Ev.now _)
  | succ d ih =>
    intro i acc hd hi hl
    have hlt : i < xs.length := by omega
    have c1 : (i : Int) < (xs.length : Int) := Int.ofNat_lt.2 hlt
    have c2 : acc.length < 17592186044416 := by omega
    have e1 : wrap64 ((i : Int) + 1) = ((i + 1 : Nat) : Int) := w_succ i xs.length hlt (by have := hk.2; omega)
    obtain ⟨h1, h2⟩ := hk.1 xs[i] (List.getElem_mem hlt)
    have ih1 := ih (i + 1) (acc ++ [sumL xs[i]]) (by omega) (by omega) (by rw [List.length_append, List.length_singleton]; omega)
    have e : acc ++ (xs.drop i).map sumL = (acc ++ [sumL xs[i]]) ++ (xs.drop (i + 1)).map sumL := by
      rw [List.drop_eq_getElem_cons hlt, List.map_cons, List.append_assoc, List.singleton_append]
    rw [e]
    refine Ev.step (fun k => by rw [impl_sumsOf.l0, if_pos c1, if_pos (Int.natCast_nonneg i), if_pos c1, row_is xs i hlt, e1]) ?_
    refine Ev.bind (ev_total xs[i] h2 h1) ?_
    simp only [if_pos c2]
    exact ih1
theorem ev_sumsOf (xs : List (List Int)) (hk : SetsOk xs) : Ev (fun k => impl_sumsOf.f k xs) (xs.map sumL) := by
  have := sumsOf_loop xs hk xs.length 0 [] (by omega) (by omega) (by have := hk.2; simpa using this)
  exact this
/-- How many sets have a sum. -/
def cntS (xs : List (List Int)) (v : Nat) : Nat := (xs.filter fun x => sumL x == (v : Int)).length
theorem cntS_snoc (xs : List (List Int)) (x : List Int) (v : Nat) : cntS (xs ++ [x]) v = cntS xs v + if sumL x = (v : Int) then 1 else 0 := by
  unfold cntS
  rw [List.filter_append, List.length_append, List.filter_cons, List.filter_nil]
  by_cases h : sumL x = (v : Int)
  · rw [if_pos h, if_pos (by simp [h])]; rfl
  · rw [if_neg h, if_neg (by simpa using h)]; rfl
theorem cntS_le (xs : List (List Int)) (v : Nat) : cntS xs v ≤ xs.length := List.length_filter_le _ _
theorem count_wrap {n : Nat} (h : n ≤ 200000) : wrap64 ((n : Int) + 1) = ((n + 1 : Nat) : Int) := by rw [w64 (by omega) (by omega)]; rfl
theorem siSums_loop (xs : List (List Int)) (hk : SetsOk xs) (d : Nat) : ∀ (i : Nat) (l : List Int), xs.length - i = d → i ≤ xs.length → l.length = 81 → (∀ v : Nat, v ≤ 80 → rd l (v : Int) = (cntS (xs.take i) v : Int)) →
    ∃ r : List Int, Ev (fun k => spec_siSums.l0 k l xs (xs.length : Int) (i : Int)) r ∧ r.length = 81 ∧ ∀ v : Nat, v ≤ 80 → rd r (v : Int) = (cntS xs v : Int) := by
  induction d with
  | zero =>
    intro i l hd hi hl hv
    obtain rfl : i = xs.length := by omega
    rw [List.take_length] at hv
    exact ⟨l, Ev.step (f := fun _ => some l) (fun k => by rw [spec_siSums.l0, if_neg (by omega)]) (Ev.now _), hl, hv⟩
  | succ d ih =>
    intro i l hd hi hl hv
    have hlt : i < xs.length := by omega
    have k1 : xs.length - (i + 1) = d := by omega
    have c1 : (i : Int) < (xs.length : Int) := Int.ofNat_lt.2 hlt
    have e1 : wrap64 ((i : Int) + 1) = ((i + 1 : Nat) : Int) := w_succ i xs.length hlt (by have := hk.2; omega)
    obtain ⟨h1, h2⟩ := hk.1 xs[i] (List.getElem_mem hlt)
    obtain ⟨n, hnn, hn1⟩ : ∃ n : Nat, sumL xs[i] = (n : Int) ∧ n ≤ 80 := by
      have hin := sum_in h1 h2
      exact ⟨(sumL xs[i]).toNat, (Int.toNat_of_nonneg hin.1).symm, by omega⟩
    have c4 : n < l.length := Nat.lt_of_le_of_lt hn1 (by rw [hl]; decide)
    have hts : xs.take (i + 1) = xs.take i ++ [xs[i]] := List.take_succ_eq_append_getElem hlt
    have hw : wrap64 (rd l (n : Int) + 1) = ((cntS (xs.take i) n + 1 : Nat) : Int) := by
      rw [hv n hn1]
      exact count_wrap (Nat.le_trans (cntS_le _ _) (by rw [List.length_take]; exact Nat.le_trans (Nat.min_le_right _ _) hk.2))
    obtain ⟨r, q1, q2, q3⟩ := ih (i + 1) (l.set n ((cntS (xs.take i) n + 1 : Nat) : Int)) k1 hlt ((List.length_set ..).trans hl) (by
      intro v hvl
      rw [hts, cntS_snoc, hnn]
      by_cases e : n = v
      · subst e
        rw [rd_set_eq l n _ c4, if_pos rfl]
      · rw [rd_set_ne l n v _ e, if_neg (show ¬ (n : Int) = (v : Int) from fun e' => e (Int.ofNat.inj e')), hv v hvl, Nat.add_zero])
    refine ⟨r, Ev.step (fun k => by rw [spec_siSums.l0, if_pos c1, if_pos (Int.natCast_nonneg i), if_pos c1, row_is xs i hlt, e1]) ?_, q2, q3⟩
    refine Ev.bind (ev_agSum xs[i] h2 h1) ?_
    rw [hnn]
    simp only [if_pos (Int.natCast_nonneg n), if_pos (Int.ofNat_lt.2 c4), Int.toNat_natCast, hw]
    exact q1
theorem ev_siSums (xs : List (List Int)) (hk : SetsOk xs) : ∃ r : List Int, Ev (fun k => spec_siSums.f k xs) r ∧ r.length = 81 ∧ ∀ v : Nat, v ≤ 80 → rd r (v : Int) = (cntS xs v : Int) := by
  obtain ⟨r, h1, h2, h3⟩ := siSums_loop xs hk xs.length 0 (List.replicate 81 0) (by omega) (by omega) List.length_replicate (fun v hv => by
    simp only [rd, Int.toNat_natCast, List.getD_eq_getElem?_getD, List.getElem?_replicate]
    rw [List.take_zero]
    split <;> rfl)
  exact ⟨r, Ev.congr (fun k => by unfold spec_siSums.f; exact if_pos (by decide)) h1, h2, h3⟩
/-- Sums from i on that so many have. -/
def sumsFrom (xs : List (List Int)) (many : Nat) : Nat → Nat → List Int
  | 0, _ => []
  | d + 1, i => if many ≤ cntS xs i then (i : Int) :: sumsFrom xs many d (i + 1) else sumsFrom xs many d (i + 1)
theorem siWith_loop (xs : List (List Int)) (hx : xs.length ≤ 200000) (many : Nat) (l : List Int) (hl : l.length = 81) (hv : ∀ v : Nat, v ≤ 80 → rd l (v : Int) = (cntS xs v : Int)) (d : Nat) : ∀ (i : Nat) (acc : List Int), 81 - i = d → i ≤ 81 → acc.length ≤ i →
    Ev (fun k => spec_siWith.l0 k (many : Int) acc l (l.length : Int) (i : Int)) (acc ++ sumsFrom xs many d i) := by
  induction d with
  | zero =>
    intro i acc hd hi ha
    have c1 : ¬ (i : Int) < (l.length : Int) := by rw [hl]; omega
    show Ev _ (acc ++ [])
    rw [List.append_nil]
    exact Ev.step (f := fun _ => some acc) (fun k => by rw [spec_siWith.l0, if_neg c1]) (Ev.now _)
  | succ d ih =>
    intro i acc hd hi ha
    have hlt : i < l.length := by rw [hl]; omega
    have c1 : (i : Int) < (l.length : Int) := Int.ofNat_lt.2 hlt
    have c2 : acc.length < 17592186044416 := by omega
    have e1 : wrap64 ((i : Int) + 1) = ((i + 1 : Nat) : Int) := w_succ i l.length hlt (by rw [hl]; decide)
    have e2 := hv i (by omega)
    unfold sumsFrom
    by_cases hm : many ≤ cntS xs i
    · rw [if_pos hm, show acc ++ (i : Int) :: sumsFrom xs many d (i + 1) = (acc ++ [(i : Int)]) ++ sumsFrom xs many d (i + 1) by rw [List.append_assoc]; rfl]
      have c3 : ((cntS xs i : Nat) : Int) ≥ (many : Int) := Int.ofNat_le.2 hm
      exact Ev.step (fun k => by rw [spec_siWith.l0, if_pos c1, if_pos (Int.natCast_nonneg i), if_pos c1, e2, if_pos c3, if_pos c2, e1]) (ih (i + 1) (acc ++ [(i : Int)]) (by omega) (by omega) (by rw [List.length_append, List.length_singleton]; omega))
    · rw [if_neg hm]
      have c3 : ¬ ((cntS xs i : Nat) : Int) ≥ (many : Int) := fun h => hm (Int.ofNat_le.1 h)
      exact Ev.step (fun k => by rw [spec_siWith.l0, if_pos c1, if_pos (Int.natCast_nonneg i), if_pos c1, e2, if_neg c3, e1]) (ih (i + 1) acc (by omega) (by omega) (by omega))
theorem ev_siWith (xs : List (List Int)) (hk : SetsOk xs) (many : Nat) : Ev (fun k => spec_siWith.f k xs (many : Int)) (sumsFrom xs many 81 0) := by
  obtain ⟨r, h1, h2, h3⟩ := ev_siSums xs hk
  unfold spec_siWith.f
  refine Ev.bind h1 ?_
  have := siWith_loop xs hk.2 many r h2 h3 81 0 [] (by omega) (by omega) (by simp)
  exact this
theorem sumsFrom_mem (xs : List (List Int)) (many : Nat) : ∀ (d i : Nat) (x : Int), x ∈ sumsFrom xs many d i ↔ ∃ v : Nat, i ≤ v ∧ v < i + d ∧ x = (v : Int) ∧ many ≤ cntS xs v
  | 0, i, x => by
    constructor
    · intro h; cases h
    · rintro ⟨v, h1, h2, _⟩; omega
  | d + 1, i, x => by
    have ih := sumsFrom_mem xs many d (i + 1) x
    unfold sumsFrom
    by_cases hm : many ≤ cntS xs i
    · rw [if_pos hm, List.mem_cons, ih]
      constructor
      · rintro (h | ⟨v, h1, h2, h3, h4⟩)
        · exact ⟨i, by omega, by omega, h, hm⟩
        · exact ⟨v, by omega, by omega, h3, h4⟩
      · rintro ⟨v, h1, h2, h3, h4⟩
        by_cases e : v = i
        · exact .inl (by rw [h3, e])
        · exact .inr ⟨v, by omega, by omega, h3, h4⟩
    · rw [if_neg hm, ih]
      constructor
      · rintro ⟨v, h1, h2, h3, h4⟩; exact ⟨v, by omega, by omega, h3, h4⟩
      · rintro ⟨v, h1, h2, h3, h4⟩
        by_cases e : v = i
        · exact absurd (e ▸ h4) hm
        · exact ⟨v, by omega, by omega, h3, h4⟩
theorem sumsFrom_pair (xs : List (List Int)) (many : Nat) : ∀ (d i : Nat), (sumsFrom xs many d i).Pairwise (· < ·)
  | 0, i => List.Pairwise.nil
  | d + 1, i => by
    unfold sumsFrom
    by_cases hm : many ≤ cntS xs i
    · rw [if_pos hm]
      refine List.pairwise_cons.2 ⟨fun y hy => ?_, sumsFrom_pair xs many d (i + 1)⟩
      obtain ⟨v, h1, _, h3, _⟩ := (sumsFrom_mem xs many d (i + 1) y).1 hy
      omega
    · rw [if_neg hm]; exact sumsFrom_pair xs many d (i + 1)
theorem sumsFrom_len (xs : List (List Int)) (many : Nat) : ∀ (d i : Nat), (sumsFrom xs many d i).length ≤ d
  | 0, i => Nat.le_refl _
  | d + 1, i => by
    have := sumsFrom_len xs many d (i + 1)
    unfold sumsFrom
    split
    · rw [List.length_cons]; omega
    · omega
/-- In order, each once: the sums that some set has. -/
theorem sums_same (xs : List (List Int)) (hk : SetsOk xs) : Lib.compact ((xs.map sumL).mergeSort fun x y => decide (x ≤ y)) = sumsFrom xs 1 81 0 := by
  obtain ⟨h1, h2⟩ := distinct_is (xs.map sumL)
  refine strict_eq _ _ h1 (sumsFrom_pair xs 1 81 0) fun x => ?_
  rw [h2, sumsFrom_mem, List.mem_map]
  constructor
  · rintro ⟨s, hs, rfl⟩
    obtain ⟨q1, q2⟩ := hk.1 s hs
    have hin := sum_in q1 q2
    refine ⟨(sumL s).toNat, Nat.zero_le _, by omega, (Int.toNat_of_nonneg hin.1).symm, ?_⟩
    exact List.length_pos_of_mem (List.mem_filter.2 ⟨hs, by rw [Int.toNat_of_nonneg hin.1]; simp⟩)
  · rintro ⟨v, _, _, rfl, hc⟩
    obtain ⟨s, hs⟩ := List.exists_mem_of_length_pos hc
    obtain ⟨hs1, hs2⟩ := List.mem_filter.1 hs
    exact ⟨s, hs1, by simpa using hs2⟩
theorem ev_sums (xs : List (List Int)) (hk : SetsOk xs) : Ev (fun k => (impl_sumsOf.f k xs).bind fun t => impl_distinct.f t) (sumsFrom xs 1 81 0) := by
  refine Ev.bind (ev_sumsOf xs hk) ?_
  have : impl_distinct.f (xs.map sumL) = some (sumsFrom xs 1 81 0) := by
    unfold impl_distinct.f
    rw [if_pos (by rw [List.length_map]; exact hk.2), sums_same xs hk]
  rw [this]
  exact Ev.now _
end Go.Proofs.Ytgpecpdhkecnmaa.Pure
