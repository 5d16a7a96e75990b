/- Chapter 4, plain: the products of sets, gathered, each once, in order. No condition beyond those typed at each lemma. -/
import Derived.Test.YtgpecpdhkecnmaaC4Mark
import Derived.Test.YtgpecpdhkecnmaaC4Sets
import Derived.Test.YtgpecpdhkecnmaaC4Sort
import Derived.Test.YtgpecpdhkecnmaaC4Sum
import Derived.Test.YtgpecpdhkecnmaaE1
import Derived.Test.YtgpecpdhkecnmaaE11
import Derived.Test.YtgpecpdhkecnmaaE12
import Derived.Test.YtgpecpdhkecnmaaE3
import Derived.Test.YtgpecpdhkecnmaaE4
import Derived.Test.YtgpecpdhkecnmaaE5
import Derived.Test.YtgpecpdhkecnmaaE6
import Derived.Test.YtgpecpdhkecnmaaE7
import Derived.Test.YtgpecpdhkecnmaaE9
namespace Go.Proofs.Ytgpecpdhkecnmaa.Pure
open Go.RowKit Go.Proofs.Ytgpecpdhkecnmaa.E Go.Proofs.YtgpecpdhkecnmaaW.PrintWords Go.Proofs.YtgpecpdhkecnmaaW.PrintLast
set_option linter.unusedVariables false
set_option linter.unusedSimpArgs false

theorem has_loop (l : List Int) (v : Int) (hn : l.length ≤ 1000000) (d : Nat) : ∀ i : Nat, l.length - i = d → i ≤ l.length → Ev (fun k => spec_l1Has.l0 k v l (l.length : Int) (i : Int)) ((l.drop i).contains v) := by
  induction d with
  | zero =>
    intro i hd hi
    obtain rfl : i = l.length := by omega
    rw [List.drop_of_length_le (Nat.le_refl _)]
    exact Ev.step (f := fun _ => some false) (fun k => by rw [spec_l1Has.l0, if_neg (by omega)]) (Ev.now _)
  | succ d ih =>
    intro i hd hi
    have hlt : i < l.length := by omega
    have c1 : (i : Int) < (l.length : Int) := Int.ofNat_lt.2 hlt
    have e1 : wrap64 ((i : Int) + 1) = ((i + 1 : Nat) : Int) := w_succ i l.length hlt (by omega)
    have ih1 := ih (i + 1) (by omega) (by omega)
    have hr : rd l (i : Int) = l[i] := by simp [rd, List.getD, List.getElem?_eq_getElem hlt]
    rw [List.drop_eq_getElem_cons hlt, List.contains_cons]
    by_cases e : l[i] = v
    · have : (v == l[i]) = true := beq_iff_eq.2 e.symm
      rw [this, Bool.true_or]
      exact Ev.step (f := fun _ => some true) (fun k => by rw [spec_l1Has.l0, if_pos c1, if_pos (Int.natCast_nonneg i), if_pos c1, hr, if_pos e]) (Ev.now _)
    · have : (v == l[i]) = false := beq_eq_false_iff_ne.2 (fun h => e h.symm)
      rw [this, Bool.false_or]
      exact Ev.step (fun k => by rw [spec_l1Has.l0, if_pos c1, if_pos (Int.natCast_nonneg i), if_pos c1, hr, if_neg e, e1]) ih1
theorem ev_has (l : List Int) (v : Int) (hn : l.length ≤ 1000000) : Ev (fun k => spec_l1Has.f k l v) (l.contains v) := by
  have := has_loop l v hn l.length 0 (by omega) (by omega)
  exact this
/-- A product so far, of so many numbers up to 20. -/
theorem pow_step {a x : Int} {m : Nat} (h1 : 1 ≤ a) (h2 : a ≤ ((20 ^ m : Nat) : Int)) (hx1 : 1 ≤ x) (hx2 : x ≤ 20) : 1 ≤ a * x ∧ a * x ≤ ((20 ^ (m + 1) : Nat) : Int) := by
  have q1 := Int.mul_le_mul h1 hx1 (by omega) (by omega)
  have q2 := Int.mul_le_mul h2 hx2 (by omega) (by omega)
  rw [Nat.pow_succ, Int.natCast_mul]
  exact ⟨by omega, q2⟩
theorem pow_small {m : Nat} (h : m ≤ 4) : 20 ^ m ≤ 160000 := Nat.le_trans (Nat.pow_le_pow_right (by omega) h) (by decide)
theorem l1_loop (x6 : List Int) (x21 : List (List Int)) (n i23 : Int) (s : List Int) (ha : Ages s) (h4 : s.length ≤ 4) (hx : x6.length ≤ 1000000) (r : List Int × Bool) (d : Nat) : ∀ (j : Nat) (a : Int), s.length - j = d → j ≤ s.length → 1 ≤ a → a ≤ ((20 ^ j : Nat) : Int) →
    Ev (fun k => if x6.contains ((s.drop j).foldl (· * ·) a) = true then spec_ProductsOfSum.l0 k x6 x21 n (wrap64 (i23 + 1)) else (if x6.length < 17592186044416 then spec_ProductsOfSum.l0 k (x6 ++ [(s.drop j).foldl (· * ·) a]) x21 n (wrap64 (i23 + 1)) else none)) r →
    Ev (fun k => spec_ProductsOfSum.l1 k x6 a x21 n i23 s (s.length : Int) (j : Int)) r := by
  induction d with
  | zero =>
    intro j a hd hj h1 h2 h
    obtain rfl : j = s.length := by omega
    rw [List.drop_of_length_le (Nat.le_refl _), List.foldl_nil] at h
    exact Ev.step (fun k => by rw [spec_ProductsOfSum.l1, if_neg (by omega)]) (Ev.bind (ev_has x6 a hx) h)
  | succ d ih =>
    intro j a hd hj h1 h2 h
    have hlt : j < s.length := by omega
    have c1 : (j : Int) < (s.length : Int) := Int.ofNat_lt.2 hlt
    have e1 : wrap64 ((j : Int) + 1) = ((j + 1 : Nat) : Int) := w_succ j s.length hlt (by omega)
    have hr : rd s (j : Int) = s[j] := by simp [rd, List.getD, List.getElem?_eq_getElem hlt]
    have hxj := ha s[j] (List.getElem_mem hlt)
    obtain ⟨q1, q2⟩ := pow_step h1 h2 hxj.1 hxj.2
    have q3 := pow_small (m := j + 1) (by omega)
    have e2 : wrap64 (a * s[j]) = a * s[j] := w64 (by omega) (by omega)
    have ih1 := ih (j + 1) (a * s[j]) (by omega) (by omega) q1 q2
    rw [List.drop_eq_getElem_cons hlt, List.foldl_cons] at h
    exact Ev.step (fun k => by rw [spec_ProductsOfSum.l1, if_pos c1, if_pos (Int.natCast_nonneg j), if_pos c1, hr, e1, e2]) (ih1 h)
/-- Each product once, as they come. -/
def once : List Int → List (List Int) → List Int
  | acc, [] => acc
  | acc, s :: xs => once (if acc.contains (prodL s) = true then acc else acc ++ [prodL s]) xs
theorem l0_loop (xs : List (List Int)) (hk : SetsOk xs) (r : List Int × Bool) (d : Nat) : ∀ (i : Nat) (acc : List Int), xs.length - i = d → i ≤ xs.length → acc.length ≤ i → Ev (fun k => spec_ProductsOfSum.l2 k (once acc (xs.drop i)) ((once acc (xs.drop i)).length : Int) 0) r →
    Ev (fun k => spec_ProductsOfSum.l0 k acc xs (xs.length : Int) (i : Int)) r := by
  induction d with
  | zero =>
    intro i acc hd hi hl h
    obtain rfl : i = xs.length := by omega
    rw [List.drop_of_length_le (Nat.le_refl _), once] at h
    exact Ev.step (fun k => by rw [spec_ProductsOfSum.l0, if_neg (by omega)]) h
  | succ d ih =>
    intro i acc hd hi hl h
    have hlt : i < xs.length := by omega
    have hx2 := hk.2
    have c1 : (i : Int) < (xs.length : Int) := Int.ofNat_lt.2 hlt
    have e1 : wrap64 ((i : Int) + 1) = ((i + 1 : Nat) : Int) := w_succ i xs.length hlt (by omega)
    have c2 : acc.length < 17592186044416 := by omega
    have c3 : acc.length ≤ 1000000 := by omega
    obtain ⟨h1, h2⟩ := hk.1 xs[i] (List.getElem_mem hlt)
    have k1 : xs.length - (i + 1) = d := by omega
    have k2 : acc.length ≤ i + 1 := by omega
    have k3 : (acc ++ [prodL xs[i]]).length ≤ i + 1 := by rw [List.length_append, List.length_singleton]; omega
    rw [List.drop_eq_getElem_cons hlt, once] at h
    refine Ev.step (fun k => by rw [spec_ProductsOfSum.l0, if_pos c1, if_pos (Int.natCast_nonneg i), if_pos c1, row_is xs i hlt]) ?_
    refine l1_loop acc xs (xs.length : Int) (i : Int) xs[i] h1 h2 c3 r xs[i].length 0 1 (by omega) (by omega) (by omega) (by decide) ?_
    rw [List.drop_zero, show xs[i].foldl (· * ·) 1 = prodL xs[i] from rfl, e1]
    by_cases e : acc.contains (prodL xs[i]) = true
    · rw [if_pos e] at h
      exact Ev.congr (fun k => by rw [if_pos e]) (ih (i + 1) acc k1 hlt k2 h)
    · rw [if_neg e] at h
      exact Ev.congr (fun k => by rw [if_neg e, if_pos c2]) (ih (i + 1) (acc ++ [prodL xs[i]]) k1 hlt k3 h)
theorem once_mem : ∀ (xs : List (List Int)) (acc : List Int) (v : Int), v ∈ once acc xs ↔ v ∈ acc ∨ ∃ s ∈ xs, prodL s = v
  | [], acc, v => by simp [once]
  | s :: xs, acc, v => by
    rw [once, once_mem xs _ v]
    by_cases e : acc.contains (prodL s) = true
    · rw [if_pos e]
      have hm : prodL s ∈ acc := by simpa using e
      constructor
      · rintro (h | ⟨t, ht, h⟩)
        · exact .inl h
        · exact .inr ⟨t, List.mem_cons_of_mem _ ht, h⟩
      · rintro (h | ⟨t, ht, h⟩)
        · exact .inl h
        · rcases List.mem_cons.1 ht with rfl | ht
          · exact .inl (h ▸ hm)
          · exact .inr ⟨t, ht, h⟩
    · rw [if_neg e, List.mem_append, List.mem_singleton]
      constructor
      · rintro ((h | h) | ⟨t, ht, h⟩)
        · exact .inl h
        · exact .inr ⟨s, List.mem_cons_self .., h.symm⟩
        · exact .inr ⟨t, List.mem_cons_of_mem _ ht, h⟩
      · rintro (h | ⟨t, ht, h⟩)
        · exact .inl (.inl h)
        · rcases List.mem_cons.1 ht with rfl | ht
          · exact .inl (.inr h.symm)
          · exact .inr ⟨t, ht, h⟩
theorem once_nodup : ∀ (xs : List (List Int)) (acc : List Int), acc.Nodup → (once acc xs).Nodup
  | [], acc, h => h
  | s :: xs, acc, h => by
    rw [once]
    refine once_nodup xs _ ?_
    by_cases e : acc.contains (prodL s) = true
    · rw [if_pos e]; exact h
    · rw [if_neg e]
      have hm : ¬ prodL s ∈ acc := by simpa using e
      refine List.nodup_append.2 ⟨h, by simp, fun a ha b hb => ?_⟩
      rw [List.mem_singleton.1 hb]
      exact fun h => hm (h ▸ ha)
theorem once_len : ∀ (xs : List (List Int)) (acc : List Int), (once acc xs).length ≤ acc.length + xs.length
  | [], acc => by simp [once]
  | s :: xs, acc => by
    rw [once, List.length_cons]
    have := once_len xs (if acc.contains (prodL s) = true then acc else acc ++ [prodL s])
    by_cases e : acc.contains (prodL s) = true
    · rw [if_pos e] at this ⊢; omega
    · rw [if_neg e] at this ⊢
      rw [List.length_append, List.length_singleton] at this
      omega
/-! ### the reference's sorting -/
/-- y holds the numbers of L, each at one place; the first i of it are in order. -/
structure Good (L y : List Int) (i : Nat) : Prop where
  len : y.length = L.length
  inj : ∀ a b : Nat, a < y.length → b < y.length → rd y (a : Int) = rd y (b : Int) → a = b
  mem : ∀ v, v ∈ y ↔ v ∈ L
  ord : ∀ a b : Nat, a < b → b < i → rd y (a : Int) ≤ rd y (b : Int)
/-- The first i + 1 are in order but for place j, which is no greater than those behind it. -/
structure Sink (L y : List Int) (i j : Nat) : Prop where
  len : y.length = L.length
  inj : ∀ a b : Nat, a < y.length → b < y.length → rd y (a : Int) = rd y (b : Int) → a = b
  mem : ∀ v, v ∈ y ↔ v ∈ L
  ord : ∀ a b : Nat, a < b → b < i + 1 → a ≠ j → b ≠ j → rd y (a : Int) ≤ rd y (b : Int)
  low : ∀ b : Nat, j < b → b < i + 1 → rd y (j : Int) ≤ rd y (b : Int)
theorem rd_swap (y : List Int) (j : Nat) (hj : j + 1 < y.length) (a : Nat) : rd ((y.set (j + 1) (rd y (j : Int))).set j (rd y ((j + 1 : Nat) : Int))) (a : Int) = if a = j then rd y ((j + 1 : Nat) : Int) else if a = j + 1 then rd y (j : Int) else rd y (a : Int) := by
  by_cases h1 : a = j
  · subst h1
    rw [if_pos rfl, rd_set_eq _ a _ (by rw [List.length_set]; omega)]
  · rw [if_neg h1, rd_set_ne _ j a _ (fun e => h1 e.symm)]
    by_cases h2 : a = j + 1
    · subst h2
      rw [if_pos rfl, rd_set_eq _ _ _ hj]
    · rw [if_neg h2, rd_set_ne _ (j + 1) a _ (fun e => h2 e.symm)]
theorem mem_rd (y : List Int) (v : Int) : v ∈ y ↔ ∃ a : Nat, a < y.length ∧ rd y (a : Int) = v := by
  constructor
  · intro h
    obtain ⟨a, ha, e⟩ := List.mem_iff_getElem.1 h
    exact ⟨a, ha, by simp [rd, List.getD, List.getElem?_eq_getElem ha, e]⟩
  · rintro ⟨a, ha, e⟩
    rw [← e]
    have : rd y (a : Int) = y[a] := by simp [rd, List.getD, List.getElem?_eq_getElem ha]
    rw [this]
    exact List.getElem_mem ha
theorem Sink.swap {L y : List Int} {i j : Nat} (h : Sink L y i (j + 1)) (hi : i < y.length) (hj : j + 1 ≤ i) (hgt : rd y ((j + 1 : Nat) : Int) < rd y (j : Int)) : Sink L ((y.set (j + 1) (rd y (j : Int))).set j (rd y ((j + 1 : Nat) : Int))) i j := by
  have hs := rd_swap y j (by omega)
  have hl : ((y.set (j + 1) (rd y (j : Int))).set j (rd y ((j + 1 : Nat) : Int))).length = y.length := by rw [List.length_set, List.length_set]
  obtain ⟨z, hz⟩ : ∃ z, z = (y.set (j + 1) (rd y (j : Int))).set j (rd y ((j + 1 : Nat) : Int)) := ⟨_, rfl⟩
  rw [← hz] at hs hl ⊢
  clear hz
  have hsig : ∀ a : Nat, rd z (a : Int) = rd y ((if a = j then j + 1 else if a = j + 1 then j else a : Nat) : Int) := by
    intro a
    rw [hs a]
    by_cases h1 : a = j
    · rw [if_pos h1, if_pos h1]
    · rw [if_neg h1, if_neg h1]
      by_cases h2 : a = j + 1
      · rw [if_pos h2, if_pos h2]
      · rw [if_neg h2, if_neg h2]
  refine ⟨hl.trans h.len, fun a b ha hb e => ?_, fun v => ?_, fun a b hab hb h1 h2 => ?_, fun b hb1 hb2 => ?_⟩
  · rw [hsig a, hsig b] at e
    have := h.inj _ _ (by split <;> (try split) <;> omega) (by split <;> (try split) <;> omega) e
    split at this <;> split at this <;> (try split at this) <;> (try split at this) <;> omega
  · rw [← h.mem v, mem_rd, mem_rd]
    constructor
    · rintro ⟨a, ha, e⟩
      exact ⟨_, by split <;> (try split) <;> omega, (hsig a).symm.trans e⟩
    · rintro ⟨a, ha, e⟩
      by_cases h1 : a = j
      · exact ⟨j + 1, by omega, by rw [hs, if_neg (by omega), if_pos rfl, ← h1]; exact e⟩
      · by_cases h2 : a = j + 1
        · exact ⟨j, by omega, by rw [hs, if_pos rfl, ← h2]; exact e⟩
        · exact ⟨a, by omega, by rw [hs, if_neg h1, if_neg h2]; exact e⟩
  · rw [hs a, hs b, if_neg h1, if_neg h2]
    by_cases q1 : a = j + 1
    · rw [if_pos q1, if_neg (by omega)]
      exact h.ord j b (by omega) hb (by omega) (by omega)
    · rw [if_neg q1]
      by_cases q2 : b = j + 1
      · rw [if_pos q2]
        exact h.ord a j (by omega) (by omega) q1 (by omega)
      · rw [if_neg q2]
        exact h.ord a b hab hb q1 q2
  · rw [hs j, hs b, if_pos rfl, if_neg (by omega)]
    by_cases q2 : b = j + 1
    · rw [if_pos q2]; omega
    · rw [if_neg q2]
      exact h.low b (by omega) hb2
theorem Sink.done {L y : List Int} {i j : Nat} (h : Sink L y i j) (hd : j = 0 ∨ rd y ((j - 1 : Nat) : Int) ≤ rd y (j : Int)) : Good L y (i + 1) := by
  refine ⟨h.len, h.inj, h.mem, fun a b hab hb => ?_⟩
  by_cases q1 : a = j
  · subst q1; exact h.low b hab hb
  · by_cases q2 : b = j
    · subst q2
      rcases hd with hd | hd
      · omega
      · by_cases q3 : a = b - 1
        · rw [q3]; exact hd
        · exact Int.le_trans (h.ord a (b - 1) (by omega) (by omega) q1 (by omega)) hd
    · exact h.ord a b hab hb q1 q2
theorem l3_loop (L : List Int) (hn : L.length ≤ 1000000) (i : Nat) (r : List Int × Bool) : ∀ (j : Nat) (y : List Int), Sink L y i j → i < y.length → j ≤ i →
    (∀ z, Good L z (i + 1) → Ev (fun k => spec_ProductsOfSum.l2 k z (L.length : Int) ((i + 1 : Nat) : Int)) r) → Ev (fun k => spec_ProductsOfSum.l3 k y (j : Int) (L.length : Int) (i : Int)) r
  | 0, y, hs, hi, hj, h => by
    have hl := hs.len
    have e1 : wrap64 ((i : Int) + 1) = ((i + 1 : Nat) : Int) := w_succ i y.length hi (by omega)
    exact Ev.step (fun k => by rw [spec_ProductsOfSum.l3, if_neg (by decide), e1]) (h y (hs.done (.inl rfl)))
  | j + 1, y, hs, hi, hj, h => by
    have hl := hs.len
    have e1 : wrap64 ((i : Int) + 1) = ((i + 1 : Nat) : Int) := w_succ i y.length hi (by omega)
    have e2 : wrap64 (((j + 1 : Nat) : Int) - 1) = (j : Int) := by rw [w64 (by omega) (by omega)]; omega
    have c1 : ((j + 1 : Nat) : Int) > 0 := by omega
    have c2 : (j : Int) < (y.length : Int) := by omega
    have c3 : ((j + 1 : Nat) : Int) < (y.length : Int) := by omega
    by_cases hgt : rd y (j : Int) > rd y ((j + 1 : Nat) : Int)
    · have ih := l3_loop L hn i r j _ (hs.swap hi hj hgt) (by rw [List.length_set, List.length_set]; exact hi) (by omega) h
      refine Ev.step (fun k => ?_) ih
      rw [spec_ProductsOfSum.l3, if_pos c1, e2, if_pos (Int.natCast_nonneg j), if_pos c2, if_pos (Int.natCast_nonneg (j + 1)), if_pos c3, if_pos hgt, Int.toNat_natCast, Int.toNat_natCast]
    · refine Ev.step (fun k => ?_) (h y (hs.done (.inr (Int.not_lt.1 hgt))))
      rw [spec_ProductsOfSum.l3, if_pos c1, e2, if_pos (Int.natCast_nonneg j), if_pos c2, if_pos (Int.natCast_nonneg (j + 1)), if_pos c3, if_neg hgt, e1]
theorem l2_loop (L : List Int) (hn : L.length ≤ 1000000) (r : List Int) (hr : ∀ z, Good L z L.length → z = r) (d : Nat) : ∀ (i : Nat) (y : List Int), L.length - i = d → i ≤ L.length → Good L y i → Ev (fun k => spec_ProductsOfSum.l2 k y (L.length : Int) (i : Int)) (r, true) := by
  induction d with
  | zero =>
    intro i y hd hi hg
    obtain rfl : i = L.length := by omega
    rw [← hr y hg]
    exact Ev.step (f := fun _ => some (y, true)) (fun k => by rw [spec_ProductsOfSum.l2, if_neg (by omega)]) (Ev.now _)
  | succ d ih =>
    intro i y hd hi hg
    have c1 : (i : Int) < (L.length : Int) := by omega
    refine Ev.step (fun k => by rw [spec_ProductsOfSum.l2, if_pos c1]) ?_
    exact l3_loop L hn i (r, true) i y ⟨hg.len, hg.inj, hg.mem, fun a b hab hb h1 h2 => hg.ord a b hab (by omega), fun b h1 h2 => by omega⟩ (by rw [hg.len]; omega) (Nat.le_refl _) (fun z hz => ih (i + 1) z (by omega) (by omega) hz)
theorem Good.strict {L y : List Int} (h : Good L y L.length) : y.Pairwise (· < ·) := by
  refine List.pairwise_iff_getElem.2 fun a b ha hb hab => ?_
  have e : ∀ k (hk : k < y.length), rd y (k : Int) = y[k] := fun k hk => by simp [rd, List.getD, List.getElem?_eq_getElem hk]
  have h1 := h.ord a b hab (by have := h.len; omega)
  have h2 : ¬ rd y (a : Int) = rd y (b : Int) := fun e => by have := h.inj a b ha hb e; omega
  rw [e a ha, e b hb] at h1 h2
  omega
/-- All products, in order. -/
def prodsOf (xs : List (List Int)) : List Int := Lib.compact ((xs.map prodL).mergeSort fun x y => decide (x ≤ y))
theorem good_is (xs : List (List Int)) (z : List Int) (h : Good (once [] xs) z (once [] xs).length) : z = prodsOf xs := by
  obtain ⟨h1, h2⟩ := distinct_is (xs.map prodL)
  refine strict_eq _ _ h.strict h1 fun v => ?_
  have e : v ∈ prodsOf xs ↔ v ∈ xs.map prodL := h2 v
  rw [h.mem, once_mem, e, List.mem_map]
  simp
theorem good_start (L : List Int) (h : L.Nodup) : Good L L 0 := by
  have e : ∀ k (hk : k < L.length), rd L (k : Int) = L[k] := fun k hk => by simp [rd, List.getD, List.getElem?_eq_getElem hk]
  refine ⟨rfl, fun a b ha hb hab => ?_, fun v => Iff.rfl, fun a b _ hb => absurd hb (Nat.not_lt_zero _)⟩
  rw [e a ha, e b hb] at hab
  exact (List.getElem_inj h).1 hab
theorem ev_spec_prods (xs : List (List Int)) (hk : SetsOk xs) : Ev (fun k => spec_ProductsOfSum.l0 k [] xs (xs.length : Int) 0) (prodsOf xs, true) := by
  have hl := once_len xs []
  have hx := hk.2
  have := l0_loop xs hk (prodsOf xs, true) xs.length 0 [] (by omega) (by omega) (by simp) (by
    rw [List.drop_zero]
    have := l2_loop (once [] xs) (by simp at hl; omega) (prodsOf xs) (good_is xs) (once [] xs).length 0 (once [] xs) (by omega) (by omega) (good_start _ (once_nodup xs [] (by simp)))
    exact this)
  exact this
theorem impl_loop (xs : List (List Int)) (hk : SetsOk xs) (d : Nat) : ∀ (i : Nat) (acc : List Int), xs.length - i = d → i ≤ xs.length → acc.length + d ≤ 200000 → acc ++ (xs.drop i).map prodL = xs.map prodL → Ev (fun k => impl_ProductsOfSum.l0 k acc xs (xs.length : Int) (i : Int)) (prodsOf xs, true) := by
  induction d with
  | zero =>
    intro i acc hd hi hl he
    obtain rfl : i = xs.length := by omega
    rw [List.drop_of_length_le (Nat.le_refl _), List.map_nil, List.append_nil] at he
    have : impl_distinct.f acc = some (prodsOf xs) := by
      unfold impl_distinct.f
      rw [if_pos (by omega), he]
      rfl
    exact Ev.step (f := fun _ => some (prodsOf xs, true)) (fun k => by rw [impl_ProductsOfSum.l0, if_neg (by omega), this]; rfl) (Ev.now _)
  | succ d ih =>
    intro i acc hd hi hl he
    have hlt : i < xs.length := by omega
    have hx2 := hk.2
    have c1 : (i : Int) < (xs.length : Int) := Int.ofNat_lt.2 hlt
    have c2 : acc.length < 17592186044416 := by omega
    have e1 : wrap64 ((i : Int) + 1) = ((i + 1 : Nat) : Int) := w_succ i xs.length hlt (by omega)
    obtain ⟨h1, h2⟩ := hk.1 xs[i] (List.getElem_mem hlt)
    have ih1 := ih (i + 1) (acc ++ [prodL xs[i]]) (by omega) (by omega) (by rw [List.length_append, List.length_singleton]; omega) (by
      rw [← he, List.drop_eq_getElem_cons hlt, List.map_cons, List.append_assoc, List.singleton_append])
    refine Ev.step (fun k => by rw [impl_ProductsOfSum.l0, if_pos c1, if_pos (Int.natCast_nonneg i), if_pos c1, row_is xs i hlt, e1]) ?_
    refine Ev.bind (Ev.of (impl_productOf.mono xs[i]) (product_is xs[i] h2 h1)) ?_
    simp only [if_pos c2]
    exact ih1
theorem prodsOf_len (xs : List (List Int)) (hk : SetsOk xs) : (prodsOf xs).length ≤ 200000 := by
  have h := compact_le ((xs.map prodL).mergeSort fun x y => decide (x ≤ y))
  rw [List.length_mergeSort, List.length_map] at h
  have := hk.2
  unfold prodsOf
  omega
theorem siSum_is (c s : Int) : spec_siSum.f c s = some (decide (1 ≤ c ∧ c ≤ 4 ∧ 1 ≤ s ∧ s ≤ 80)) := siSum_val c s
theorem both_ProductsOfSum (c s : Int) : ∃ r : List Int × Bool, Ev (fun k => spec_ProductsOfSum.f k c s) r ∧ Ev (fun k => impl_ProductsOfSum.f k c s) r ∧ r.1.length ≤ 200000 := by
  unfold spec_ProductsOfSum.f impl_ProductsOfSum.f impl_setsOfSum.f
  rw [siSum_val]
  by_cases h : 1 ≤ c ∧ c ≤ 4 ∧ 1 ≤ s ∧ s ≤ 80
  · have hk := part_ok c.toNat (by omega) (hasSum s)
    have e : spec_siApart.f c s 0 = some ((allSets c.toNat []).filter (hasSum s)) := by
      unfold spec_siApart.f
      rw [if_pos (by omega), bySum_all]
    rw [decide_eq_true h, if_pos h, e]
    simp only [Option.bind_some, if_true]
    obtain ⟨xs, hxs⟩ : ∃ xs, xs = (allSets c.toNat []).filter (hasSum s) := ⟨_, rfl⟩
    rw [← hxs] at hk ⊢
    refine ⟨(prodsOf xs, true), ev_spec_prods xs hk, ?_, prodsOf_len xs hk⟩
    have hx2 := hk.2
    exact impl_loop xs hk xs.length 0 [] (by omega) (by omega) (by simpa using hx2) rfl
  · rw [decide_eq_false h, if_neg h]
    simp only [Option.bind_some, Bool.false_eq_true, if_false]
    exact ⟨([], false), Ev.now _, Ev.now _, by simp⟩
end Go.Proofs.Ytgpecpdhkecnmaa.Pure
