/- Chapter 4, plain: what is told out of the open sums, put in order, is the reference's list. No condition beyond those typed at each lemma. -/
import Derived.Test.YtebidfogkjidaaaC4Open
import Derived.Test.YtebidfogkjidaaaC4Sets
import Derived.Test.YtebidfogkjidaaaE10
import Derived.Test.YtebidfogkjidaaaE11
import Derived.Test.YtebidfogkjidaaaE13
import Derived.Test.YtebidfogkjidaaaE14
import Derived.Test.YtebidfogkjidaaaE22
import Derived.Test.YtebidfogkjidaaaE23
import Derived.Test.YtebidfogkjidaaaE3
import Derived.Test.YtebidfogkjidaaaE8
namespace Go.Proofs.Ytebidfogkjidaaa.Pure
open Go.RowKit Go.Proofs.Ytebidfogkjidaaa.E Go.Proofs.YtebidfogkjidaaaW.PrintWords Go.Proofs.YtebidfogkjidaaaW.PrintLast
set_option linter.unusedVariables false
set_option linter.unusedSimpArgs false

/-- Sets of so many children are so long. -/
theorem mem_allSets_len (n : Nat) : ∀ (l s : List Int), s ∈ allSets n l → s.length = l.length + n := by
  induction n with
  | zero =>
    intro l s hs
    obtain rfl : s = l := by simpa [allSets] using hs
    rfl
  | succ n ih =>
    intro l s hs
    simp only [allSets, List.mem_flatten, List.mem_map, List.mem_range] at hs
    obtain ⟨_, ⟨i, hi, rfl⟩, hs⟩ := hs
    have := ih _ s hs
    rw [List.length_append] at this
    simp at this
    omega
theorem okSets_part (c : Nat) (h : c ≤ 4) (q : List Int → Bool) : okSets ((allSets c []).filter q) = true := by
  unfold okSets
  refine Bool.and_eq_true_iff.2 ⟨decide_eq_true ?_, List.all_eq_true.2 fun x hx => ?_⟩
  · have h1 := List.length_filter_le q (allSets c [])
    have h2 := allSets_len c [] (fun x hx => by simp at hx)
    have h3 : 20 ^ c ≤ 20 ^ 4 := Nat.pow_le_pow_right (by omega) h
    omega
  · have := allSets_ages c [] x (fun y hy => by simp at hy) (List.mem_filter.1 hx).1
    refine Bool.and_eq_true_iff.2 ⟨decide_eq_true ?_, List.all_eq_true.2 fun y hy => ?_⟩
    · have h2 := this.2
      simp at h2
      omega
    · have h3 := this.1 y hy
      exact Bool.and_eq_true_iff.2 ⟨decide_eq_true h3.1, decide_eq_true h3.2⟩
theorem cmpL_prefix : ∀ (l x y : List Int), cmpL (l ++ x) (l ++ y) = cmpL x y
  | [], _, _ => rfl
  | a :: l, x, y => by
    show cmpL (a :: (l ++ x)) (a :: (l ++ y)) = _
    rw [cmpL, if_neg (Int.lt_irrefl _), if_neg (Int.lt_irrefl _)]
    exact cmpL_prefix l x y
theorem allSets_pre (n : Nat) : ∀ (l s : List Int), s ∈ allSets n l → ∃ t, s = l ++ t := by
  induction n with
  | zero =>
    intro l s hs
    obtain rfl : s = l := by simpa [allSets] using hs
    exact ⟨[], by simp⟩
  | succ n ih =>
    intro l s hs
    simp only [allSets, List.mem_flatten, List.mem_map, List.mem_range] at hs
    obtain ⟨_, ⟨i, hi, rfl⟩, hs⟩ := hs
    obtain ⟨t, rfl⟩ := ih _ s hs
    exact ⟨(fromOf l + (i : Int)) :: t, by simp⟩
theorem flat_pair {α : Type} {R : α → α → Prop} (f : Nat → List α) (h1 : ∀ i, (f i).Pairwise R) (h2 : ∀ i j, i < j → ∀ x ∈ f i, ∀ y ∈ f j, R x y) : ∀ n, (((List.range n).map f).flatten).Pairwise R
  | 0 => List.Pairwise.nil
  | n + 1 => by
    rw [List.range_succ, List.map_append, List.flatten_append]
    refine List.pairwise_append.2 ⟨flat_pair f h1 h2 n, by simpa using h1 n, fun x hx y hy => ?_⟩
    obtain ⟨l, hl, hx⟩ := List.mem_flatten.1 hx
    obtain ⟨i, hi, rfl⟩ := List.mem_map.1 hl
    have hy : y ∈ f n := by simpa using hy
    exact h2 i n (List.mem_range.1 hi) x hx y hy
theorem allSets_up (n : Nat) : ∀ l : List Int, (allSets n l).Pairwise fun x y => cmpL x y < 0 := by
  induction n with
  | zero => intro l; exact List.pairwise_singleton _ _
  | succ n ih =>
    intro l
    refine flat_pair _ (fun i => ih _) (fun i j hij x hx y hy => ?_) _
    obtain ⟨t, rfl⟩ := allSets_pre n _ x hx
    obtain ⟨u, rfl⟩ := allSets_pre n _ y hy
    rw [List.append_assoc, List.append_assoc, cmpL_prefix]
    show cmpL ((fromOf l + (i : Int)) :: t) ((fromOf l + (j : Int)) :: u) < 0
    rw [cmpL, if_pos (by omega)]
    decide
theorem sorted_eq : ∀ (a b : List Nat), a.Pairwise (· ≤ ·) → b.Pairwise (· ≤ ·) → a.Perm b → a = b
  | [], b, _, _, h => (List.Perm.nil_eq h)
  | x :: a, [], _, _, h => absurd h.length_eq (by simp)
  | x :: a, y :: b, ha, hb, h => by
    obtain ⟨hx, ha'⟩ := List.pairwise_cons.1 ha
    obtain ⟨hy, hb'⟩ := List.pairwise_cons.1 hb
    have e : x = y := by
      have h1 : y ∈ x :: a := h.mem_iff.2 (List.mem_cons_self ..)
      have h2 : x ∈ y :: b := h.mem_iff.1 (List.mem_cons_self ..)
      rcases List.mem_cons.1 h1 with h1 | h1
      · exact h1.symm
      · rcases List.mem_cons.1 h2 with h2 | h2
        · exact h2
        · exact Nat.le_antisymm (hx y h1) (hy x h2)
    subst e
    rw [sorted_eq a b ha' hb' (List.Perm.cons_inv h)]
theorem pick_range (xs : List (List Int)) (f : List Int → Bool) : pickX xs ((List.range xs.length).filter fun q => f (xs.getD q [])) = xs.filter f := by
  have h := stay_filter (fun x => !f x) xs
  simp only [Bool.not_not] at h
  unfold stayAt at h
  simp only [Bool.not_not] at h
  exact h
theorem pick_filter (l : List Nat) (f : Nat → Bool) : ((List.range l.length).filter fun m => f (l.getD m 0)).map (fun m => l.getD m 0) = l.filter f := by
  have e : l = (List.range l.length).map (fun m => l.getD m 0) := by
    apply List.ext_getElem?
    intro j
    by_cases hj : j < l.length
    · rw [List.getElem?_map, List.getElem?_range hj, Option.map_some, List.getElem?_eq_getElem hj]
      simp [List.getD, List.getElem?_eq_getElem hj]
    · rw [List.getElem?_eq_none (by omega), List.getElem?_eq_none (by simp; omega)]
  conv => rhs; rw [e, List.filter_map]
  rfl
theorem idxSum_is (t : Int) (xs : List (List Int)) : idxSum t xs = (List.range xs.length).filter fun q => hasSum t (xs.getD q []) := by
  unfold idxSum stayAt
  simp only [Bool.not_not]
theorem pickX_at (xs : List (List Int)) (st : List Nat) (m : Nat) (h : m < st.length) : (pickX xs st).getD m [] = xs.getD (st.getD m 0) [] := by
  unfold pickX
  simp [List.getD, List.getElem?_eq_getElem h]
theorem ownIdx_is (b : Bool) (xs : List (List Int)) (t : Int) : ownIdx b xs t = (List.range xs.length).filter fun q => hasSum t (xs.getD q []) && ageB b (xs.getD q []) := by
  unfold ownIdx
  rw [pickX_len]
  unfold stayAt
  simp only [Bool.not_not]
  have e : ((List.range (idxSum t xs).length).filter fun m => ageB b ((pickX xs (idxSum t xs)).getD m [])) = (List.range (idxSum t xs).length).filter fun m => ageB b (xs.getD ((idxSum t xs).getD m 0) []) :=
    List.filter_congr fun m hm => by rw [pickX_at xs _ m (List.mem_range.1 hm)]
  rw [e, pick_filter (idxSum t xs) (fun q => ageB b (xs.getD q [])), idxSum_is, List.filter_filter]
  exact List.filter_congr fun q _ => Bool.and_comm _ _
theorem ownIdx_len (b : Bool) (xs : List (List Int)) (t : Int) : (ownIdx b xs t).length = ((xs.filter (hasSum t)).filter (ageB b)).length := by
  have h := pick_range xs (fun x => hasSum t x && ageB b x)
  rw [← ownIdx_is] at h
  rw [← pickX_len xs, h, List.filter_filter]
  congr 1
  exact List.filter_congr fun x _ => Bool.and_comm _ _
theorem toldOne_is (b : Bool) (xs : List (List Int)) (t : Int) : toldOne b xs t = if (ownIdx b xs t).length = 1 then ownIdx b xs t else [] := by
  unfold toldOne
  by_cases h : (ownIdx b xs t).length = 1
  · rw [if_pos h, if_pos h]
    obtain ⟨y, hy⟩ := List.length_eq_one_iff.1 h
    rw [hy]
    rfl
  · rw [if_neg h, if_neg h]
theorem mem_toldOne (b : Bool) (xs : List (List Int)) (t : Int) (q : Nat) : q ∈ toldOne b xs t ↔ (q < xs.length ∧ ((xs.filter (hasSum t)).filter (ageB b)).length = 1 ∧ sumL (xs.getD q []) = t ∧ ageB b (xs.getD q []) = true) := by
  rw [toldOne_is]
  by_cases h : (ownIdx b xs t).length = 1
  · rw [if_pos h]
    rw [ownIdx_len] at h
    rw [ownIdx_is, List.mem_filter, List.mem_range, Bool.and_eq_true]
    constructor
    · rintro ⟨h1, h2, h3⟩
      exact ⟨h1, h, of_decide_eq_true h2, h3⟩
    · rintro ⟨h1, _, h2, h3⟩
      exact ⟨h1, decide_eq_true h2, h3⟩
  · rw [if_neg h]
    rw [ownIdx_len] at h
    exact ⟨fun h1 => absurd h1 List.not_mem_nil, fun h1 => absurd h1.2.1 h⟩
theorem mem_toldIdx (b : Bool) (xs : List (List Int)) (os : List Int) (q : Nat) : q ∈ toldIdx b xs os ↔ (q < xs.length ∧ sumL (xs.getD q []) ∈ os ∧ ((xs.filter (hasSum (sumL (xs.getD q [])))).filter (ageB b)).length = 1 ∧ ageB b (xs.getD q []) = true) := by
  unfold toldIdx
  rw [List.mem_flatten]
  constructor
  · rintro ⟨l, hl, hq⟩
    obtain ⟨t, ht, rfl⟩ := List.mem_map.1 hl
    obtain ⟨h1, h2, h3, h4⟩ := (mem_toldOne b xs t q).1 hq
    rw [h3]
    exact ⟨h1, ht, h2, h4⟩
  · rintro ⟨h1, h2, h3, h4⟩
    exact ⟨_, List.mem_map.2 ⟨_, h2, rfl⟩, (mem_toldOne b xs _ q).2 ⟨h1, h3, rfl, h4⟩⟩
theorem toldOne_nodup (b : Bool) (xs : List (List Int)) (t : Int) : (toldOne b xs t).Nodup := by
  unfold toldOne
  split
  · exact List.pairwise_singleton _ _
  · exact List.Pairwise.nil
theorem toldIdx_nodup (b : Bool) (xs : List (List Int)) : ∀ os : List Int, os.Nodup → (toldIdx b xs os).Nodup
  | [], _ => List.Pairwise.nil
  | t :: os, h => by
    obtain ⟨h1, h2⟩ := List.nodup_cons.1 h
    show (toldOne b xs t ++ toldIdx b xs os).Nodup
    refine List.nodup_append.2 ⟨toldOne_nodup b xs t, toldIdx_nodup b xs os h2, fun q hq r hr e => ?_⟩
    subst e
    have e1 := ((mem_toldOne b xs t q).1 hq).2.2.1
    have e2 := ((mem_toldIdx b xs os q).1 hr).2.1
    rw [e1] at e2
    exact h1 e2
theorem told_same (b : Bool) (xs : List (List Int)) (hup : xs.Pairwise fun x y => cmpL x y < 0) (os : List Int) (hnd : os.Nodup) (hos : ∀ x ∈ xs, sumL x ∈ os ↔ 1 < (xs.filter (hasSum (sumL x))).length) (st : List Nat) (hp : st.Perm (toldIdx b xs os)) (hpw : st.Pairwise fun a b => ¬ cfQ xs b a < 0) : pickX xs st = toldS b xs := by
  have hlt : ∀ q ∈ st, q < xs.length := fun q hq => toldIdx_lt b xs os q (hp.mem_iff.1 hq)
  have hle : st.Pairwise (· ≤ ·) := by
    refine List.Pairwise.imp_of_mem (fun {a b} ha hb h => ?_) hpw
    apply Nat.le_of_not_lt
    intro hba
    apply h
    unfold cfQ
    have hbl := hlt b hb
    have hal := hlt a ha
    have := List.pairwise_iff_getElem.1 hup b a hbl hal hba
    rw [show xs.getD b [] = xs[b] by simp [List.getD, List.getElem?_eq_getElem hbl], show xs.getD a [] = xs[a] by simp [List.getD, List.getElem?_eq_getElem hal]]
    exact this
  have hT : ((List.range xs.length).filter fun q => isTold b xs (xs.getD q [])).Pairwise (· ≤ ·) := List.Pairwise.filter _ (List.Pairwise.imp (fun h => Nat.le_of_lt h) List.pairwise_lt_range)
  have hTn : ((List.range xs.length).filter fun q => isTold b xs (xs.getD q [])).Nodup := List.Pairwise.filter _ List.nodup_range
  have hperm : st.Perm ((List.range xs.length).filter fun q => isTold b xs (xs.getD q [])) := by
    refine hp.trans ((List.perm_ext_iff_of_nodup (toldIdx_nodup b xs os hnd) hTn).2 fun q => ?_)
    rw [mem_toldIdx, List.mem_filter, List.mem_range]
    constructor
    · rintro ⟨h1, h2, h3, h4⟩
      have hx : xs.getD q [] ∈ xs := by rw [show xs.getD q [] = xs[q] by simp [List.getD, List.getElem?_eq_getElem h1]]; exact List.getElem_mem _
      refine ⟨h1, ?_⟩
      unfold isTold
      rw [decide_eq_true ((hos _ hx).1 h2), decide_eq_true h3, h4]
      rfl
    · rintro ⟨h1, h2⟩
      have hx : xs.getD q [] ∈ xs := by rw [show xs.getD q [] = xs[q] by simp [List.getD, List.getElem?_eq_getElem h1]]; exact List.getElem_mem _
      unfold isTold at h2
      simp only [Bool.and_eq_true, decide_eq_true_eq] at h2
      exact ⟨h1, (hos _ hx).2 h2.1, h2.2.1, h2.2.2⟩
  rw [sorted_eq _ _ hle hT hperm, pick_range]
  rfl
theorem told_len (b : Bool) (xs : List (List Int)) (os : List Int) (hnd : os.Nodup) (hos : ∀ x ∈ xs, sumL x ∈ os ↔ 1 < (xs.filter (hasSum (sumL x))).length) : (toldIdx b xs os).length = (toldS b xs).length := by
  have hTn : ((List.range xs.length).filter fun q => isTold b xs (xs.getD q [])).Nodup := List.Pairwise.filter _ List.nodup_range
  have hperm : (toldIdx b xs os).Perm ((List.range xs.length).filter fun q => isTold b xs (xs.getD q [])) := by
    refine (List.perm_ext_iff_of_nodup (toldIdx_nodup b xs os hnd) hTn).2 fun q => ?_
    rw [mem_toldIdx, List.mem_filter, List.mem_range]
    constructor
    · rintro ⟨h1, h2, h3, h4⟩
      have hx : xs.getD q [] ∈ xs := by rw [show xs.getD q [] = xs[q] by simp [List.getD, List.getElem?_eq_getElem h1]]; exact List.getElem_mem _
      refine ⟨h1, ?_⟩
      unfold isTold
      rw [decide_eq_true ((hos _ hx).1 h2), decide_eq_true h3, h4]
      rfl
    · rintro ⟨h1, h2⟩
      have hx : xs.getD q [] ∈ xs := by rw [show xs.getD q [] = xs[q] by simp [List.getD, List.getElem?_eq_getElem h1]]; exact List.getElem_mem _
      unfold isTold at h2
      simp only [Bool.and_eq_true, decide_eq_true_eq] at h2
      exact ⟨h1, (hos _ hx).2 h2.1, h2.2.1, h2.2.2⟩
  rw [hperm.length_eq, ← pickX_len xs, pick_range]
  rfl
theorem open_mem (xs : List (List Int)) (hk : SetsOk xs) (x : List Int) (hx : x ∈ xs) : sumL x ∈ sumsFrom xs 2 81 0 ↔ 1 < (xs.filter (hasSum (sumL x))).length := by
  obtain ⟨h1, h2⟩ := hk.1 x hx
  have hs := sum_in h1 h2
  rw [sumsFrom_mem]
  constructor
  · rintro ⟨v, _, _, e, h3⟩
    have e2 : (xs.filter (hasSum (v : Int))).length = cntS xs v := rfl
    rw [e, e2]
    omega
  · intro h
    refine ⟨(sumL x).toNat, by omega, by omega, by omega, ?_⟩
    have e2 : (xs.filter (hasSum ((sumL x).toNat : Int))).length = cntS xs (sumL x).toNat := rfl
    rw [← e2, Int.toNat_of_nonneg hs.1]
    omega
theorem told_ok (b : Bool) (xs : List (List Int)) (hk : SetsOk xs) (hup : xs.Pairwise fun x y => cmpL x y < 0) : ToldOk b xs (toldS b xs) := by
  obtain ⟨k, hk2⟩ := Ev.rounds (ev_openSums xs hk)
  have hpw := sumsFrom_pair xs 2 81 0
  have hnd : (sumsFrom xs 2 81 0).Nodup := List.Pairwise.imp (fun h => Int.ne_of_lt h) hpw
  refine ⟨k, _, hk2, Nat.le_trans (sumsFrom_len xs 2 81 0) (by decide), toldIdx_nodup b xs _ hnd, fun st hp hs => told_same b xs hup _ hnd (open_mem xs hk) st hp hs⟩
theorem okTold_part (c : Nat) (h1 : 1 ≤ c) (h : c ≤ 4) (q : List Int → Bool) : okTold ((allSets c []).filter q) = true := by
  unfold okTold
  refine Bool.and_eq_true_iff.2 ⟨okSets_part c h q, List.all_eq_true.2 fun x hx => decide_eq_true ?_⟩
  have := mem_allSets_len c [] x (List.mem_filter.1 hx).1
  simp at this
  omega
end Go.Proofs.Ytebidfogkjidaaa.Pure
