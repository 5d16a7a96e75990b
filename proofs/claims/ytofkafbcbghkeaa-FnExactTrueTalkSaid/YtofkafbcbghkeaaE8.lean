-- WRITTEN by xprint.py, a program of this session that drives the kit's printer: out of the translation. Lean checks it.
import Derived.Test.YtofkafbcbghkeaaE0
import Derived.Test.YtofkafbcbghkeaaE3
import Derived.Test.YtofkafbcbghkeaaE6
import Derived.Test.YtofkafbcbghkeaaE7
import Derived.Test.YtofkafbcbghkeaaWInv
namespace Go.Proofs.Ytofkafbcbghkeaa.E
open Go.RowKit Go.Proofs.YtofkafbcbghkeaaW.PrintWords Go.Proofs.YtofkafbcbghkeaaW.PrintLast
set_option linter.unusedVariables false
set_option linter.unusedSimpArgs false

-- OURS, BY HAND
/-! ### impl_pairsThat: function 45 -/
-- func impl.pairsThat
-- ext raw=1
-- needs impl.value
-- needs impl.isMost
-- needs spec.taTold
-- needs spec.taPairs
-- needs spec.taLimit
-- needs laws.markIntSS
/-- The pairs with a first number, of which the second one goes up to m. -/
def rowsOf (m a : Nat) : List (List Int) := (List.range (m + 1 - a)).map fun j => [(a : Int), ((a + j : Nat) : Int)]
/-- All pairs with first numbers up to k. -/
def prs (m : Nat) : Nat → List (List Int)
  | 0 => []
  | k + 1 => prs m k ++ rowsOf m (k + 1)
theorem rowsOf_len (m a : Nat) : (rowsOf m a).length = m + 1 - a := by simp [rowsOf]
theorem rowsOf_get (m a j : Nat) (h : j < m + 1 - a) : (rowsOf m a)[j]? = some [(a : Int), ((a + j : Nat) : Int)] := by
  simp [rowsOf, List.getElem?_range h]
theorem rowsOf_take (m a j : Nat) (h : j < m + 1 - a) : (rowsOf m a).take (j + 1) = (rowsOf m a).take j ++ [[(a : Int), ((a + j : Nat) : Int)]] := by
  rw [List.take_add_one, rowsOf_get m a j h]
  rfl
theorem prs_len (m : Nat) : ∀ k, (prs m k).length ≤ k * (m + 1)
  | 0 => by simp [prs]
  | k + 1 => by
    have := prs_len m k
    have h2 := rowsOf_len m (k + 1)
    simp only [prs, List.length_append]
    rw [Nat.add_mul]
    omega
theorem infoRows : (Try.prog.info? 45).map (fun i => (i.zero, i.size, i.bytes)) = some (some (.slice none 0 0), 1, 24) := by kernel_rfl
theorem reps_two (w : World) (base : Nat) (ok : Nat → Prop) (a b : Int) : Reps ((Kd.int .i64).M w base ok) 1 [a, b] [.int .i64 a, .int .i64 b] := by
  refine ⟨rfl, fun j p hp => ?_⟩
  match j, hp with
  | 0, hp => simp only [List.getElem?_cons_zero, Option.some.injEq] at hp; subst hp; rfl
  | 1, hp => simp only [List.getElem?_cons_succ, List.getElem?_cons_zero, Option.some.injEq] at hp; subst hp; rfl
theorem prs_mem (m : Nat) : ∀ (k : Nat) (x : List Int), k ≤ m → x ∈ prs m k → ∃ a b : Nat, 1 ≤ a ∧ a ≤ b ∧ b ≤ m ∧ x = [(a : Int), (b : Int)]
  | 0, x, _, h => by simp [prs] at h
  | k + 1, x, hk, h => by
    rcases List.mem_append.1 h with h | h
    · exact prs_mem m k x (by omega) h
    · obtain ⟨j, hj, rfl⟩ := List.mem_map.1 h
      have := List.mem_range.1 hj
      exact ⟨k + 1, k + 1 + j, by omega, by omega, by omega, rfl⟩
def valS (s : List Int) : Int := rd s 0 + rd s 1
def valP (s : List Int) : Int := rd s 0 * rd s 1
theorem valS_two (a b : Int) : valS [a, b] = a + b := rfl
theorem valP_two (a b : Int) : valP [a, b] = a * b := rfl
theorem mul_small {a b : Nat} (ha : a ≤ 40) (hb : b ≤ 40) : ((a : Int) * (b : Int)) = ((a * b : Nat) : Int) ∧ a * b ≤ 1600 := ⟨by push_cast; rfl, Nat.mul_le_mul ha hb⟩
theorem strS : (⟨#[115]⟩ : ByteArray).toList = [115] := by kernel_rfl
theorem strP : ¬ (⟨#[112]⟩ : ByteArray).toList = ([115] : List UInt8) := by
  have h : (⟨#[112]⟩ : ByteArray).toList = [112] := by kernel_rfl
  rw [h]
  decide
theorem value_S (a b : Nat) (ha : a ≤ 40) (hb : b ≤ 40) : impl_value.f [(a : Int), (b : Int)] ⟨#[115]⟩ = some (valS [(a : Int), (b : Int)]) := by
  unfold impl_value.f
  rw [if_pos strS, if_pos (by simp), if_pos (by simp)]
  have : wrap64 ((a : Int) + (b : Int)) = (a : Int) + (b : Int) := by unfold wrap64; omega
  exact congrArg some this
theorem value_P (a b : Nat) (ha : a ≤ 40) (hb : b ≤ 40) : impl_value.f [(a : Int), (b : Int)] ⟨#[112]⟩ = some (valP [(a : Int), (b : Int)]) := by
  unfold impl_value.f
  rw [if_neg strP, if_pos (by simp), if_pos (by simp)]
  obtain ⟨e, h⟩ := mul_small ha hb
  have : wrap64 ((a : Int) * (b : Int)) = (a : Int) * (b : Int) := by rw [e]; unfold wrap64; omega
  exact congrArg some this
theorem told_S (a b : Nat) (ha : a ≤ 40) (hb : b ≤ 40) : spec_taTold.f ⟨#[115]⟩ [(a : Int), (b : Int)] = some (valS [(a : Int), (b : Int)]) := by
  unfold spec_taTold.f
  rw [if_pos strS, if_pos (by simp), if_pos (by simp)]
  have : wrap64 ((a : Int) + (b : Int)) = (a : Int) + (b : Int) := by unfold wrap64; omega
  exact congrArg some this
theorem told_P (a b : Nat) (ha : a ≤ 40) (hb : b ≤ 40) : spec_taTold.f ⟨#[112]⟩ [(a : Int), (b : Int)] = some (valP [(a : Int), (b : Int)]) := by
  unfold spec_taTold.f
  rw [if_neg strP, if_pos (by simp), if_pos (by simp)]
  obtain ⟨e, h⟩ := mul_small ha hb
  have : wrap64 ((a : Int) * (b : Int)) = (a : Int) * (b : Int) := by rw [e]; unfold wrap64; omega
  exact congrArg some this
theorem isMost_is (m : Int) : impl_isMost.f m = some (decide (2 ≤ m ∧ m ≤ 40)) := by
  unfold impl_isMost.f impl_between.f
  by_cases h : m ≥ 2
  · rw [if_pos h, Option.bind_some]; simp [h]
  · rw [if_neg h, Option.bind_some]; simp; omega
theorem taLimit_is (m : Int) : spec_taLimit.f m = some (decide (2 ≤ m ∧ m ≤ 40)) := by
  unfold spec_taLimit.f spec_l1In.f
  by_cases h : m ≥ 2
  · rw [if_pos h, Option.bind_some]; simp [h]
  · rw [if_neg h, Option.bind_some]; simp; omega
theorem ta_l1 (m a : Nat) (hm : m ≤ 40) (ha : a ≤ m) (r : List (List Int)) (d : Nat) : ∀ (j : Nat) (acc : List (List Int)), d = m + 1 - a - j → j ≤ m + 1 - a → acc.length + d ≤ 100000 →
    (∃ K, ∀ k, K ≤ k → spec_taPairs.l0 k (m : Int) (acc ++ (rowsOf m a).drop j) ((a : Int) + 1) = some r) → ∃ K, ∀ k, K ≤ k → spec_taPairs.l1 k (m : Int) acc (a : Int) ((a : Int) + (j : Int)) = some r := by
  induction d with
  | zero =>
    intro j acc hd hj hl ⟨K, hK⟩
    have e : (rowsOf m a).drop j = [] := List.drop_of_length_le (by rw [rowsOf_len]; omega)
    rw [e, List.append_nil] at hK
    refine ⟨K + 1, fun k hk => ?_⟩
    obtain ⟨k, rfl⟩ : ∃ q, k = q + 1 := ⟨k - 1, by omega⟩
    have hw : wrap64 ((a : Int) + 1) = (a : Int) + 1 := by unfold wrap64; omega
    rw [spec_taPairs.l1, if_neg (by omega), hw]
    exact hK k (by omega)
  | succ d ih =>
    intro j acc hd hj hl ⟨K, hK⟩
    have hg := rowsOf_get m a j (by omega)
    have hdr : (rowsOf m a).drop j = [(a : Int), ((a + j : Nat) : Int)] :: (rowsOf m a).drop (j + 1) := by
      have hlt : j < (rowsOf m a).length := by rw [rowsOf_len]; omega
      rw [List.drop_eq_getElem_cons hlt]
      rw [List.getElem?_eq_getElem hlt] at hg
      rw [Option.some.inj hg]
    obtain ⟨K2, h2⟩ := ih (j + 1) (acc ++ [[(a : Int), (a : Int) + (j : Int)]]) (by omega) (by omega) (by simp; omega) ⟨K, fun k hk => by
      rw [List.append_assoc, List.singleton_append]
      have e : ((a + j : Nat) : Int) = (a : Int) + (j : Int) := by omega
      rw [hdr, e] at hK
      exact hK k hk⟩
    refine ⟨K2 + 1, fun k hk => ?_⟩
    obtain ⟨k, rfl⟩ : ∃ q, k = q + 1 := ⟨k - 1, by omega⟩
    have hw : wrap64 ((a : Int) + (j : Int) + 1) = (a : Int) + ((j + 1 : Nat) : Int) := by unfold wrap64; omega
    rw [spec_taPairs.l1, if_pos (by omega), if_pos (by omega), hw]
    exact h2 k (by omega)
theorem ta_l0 (m : Nat) (hm : m ≤ 40) (d : Nat) : ∀ i, d = m - i → i ≤ m → ∃ K, ∀ k, K ≤ k → spec_taPairs.l0 k (m : Int) (prs m i) ((i : Int) + 1) = some (prs m m) := by
  induction d with
  | zero =>
    intro i hd hi
    obtain rfl : i = m := by omega
    refine ⟨1, fun k hk => ?_⟩
    obtain ⟨k, rfl⟩ : ∃ q, k = q + 1 := ⟨k - 1, by omega⟩
    rw [spec_taPairs.l0, if_neg (by omega)]
  | succ d ih =>
    intro i hd hi
    have h1 := prs_len m i
    have h3 : i * (m + 1) ≤ 40 * 41 := Nat.mul_le_mul (by omega) (by omega)
    obtain ⟨K, hK⟩ := ta_l1 m (i + 1) hm (by omega) (prs m m) (m + 1 - (i + 1)) 0 (prs m i) (by omega) (by omega) (by omega) (by
      obtain ⟨K, hK⟩ := ih (i + 1) (by omega) (by omega)
      exact ⟨K, fun k hk => by
        have := hK k hk
        rw [List.drop_zero]
        exact this⟩)
    refine ⟨K + 1, fun k hk => ?_⟩
    obtain ⟨k, rfl⟩ : ∃ q, k = q + 1 := ⟨k - 1, by omega⟩
    rw [spec_taPairs.l0, if_pos (by omega)]
    have := hK k (by omega)
    have e : (((i + 1 : Nat) : Int) + ((0 : Nat) : Int)) = (i : Int) + 1 := by omega
    have e2 : ((i + 1 : Nat) : Int) = (i : Int) + 1 := by omega
    rw [e, e2] at this
    exact this
theorem taPairs_ev (m : Nat) (hm : m ≤ 40) : ∃ K, ∀ k, K ≤ k → spec_taPairs.f k (m : Int) = some (prs m m) := by
  obtain ⟨K, hK⟩ := ta_l0 m hm m 0 (by omega) (by omega)
  exact ⟨K, fun k hk => hK k hk⟩
theorem take_succ_filter {α : Type} (q : α → Bool) (xs : List α) (k : Nat) (h : k < xs.length) : (xs.take (k + 1)).filter q = (xs.take k).filter q ++ if q xs[k] = true then [xs[k]] else [] := by
  rw [List.take_succ_eq_append_getElem h, List.filter_append]
  congr 1
  rw [List.filter_cons, List.filter_nil]
theorem infoRowsF (w : World) : (Try.prog.info? 45).map (fun i => (i.zero, i.size, i.bytes)) = some (some (.slice none 0 0), (Kd.fixed (Kd.slice 3 (Kd.int .i64)) w).sz, 24) := infoRows

end Go.Proofs.Ytofkafbcbghkeaa.E
