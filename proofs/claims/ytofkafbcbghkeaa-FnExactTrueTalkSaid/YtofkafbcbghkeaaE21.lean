-- WRITTEN by xprint.py, a program of this session that drives the kit's printer: out of the translation. Lean checks it.
import Derived.Test.YtofkafbcbghkeaaE0
import Derived.Test.YtofkafbcbghkeaaE1
import Derived.Test.YtofkafbcbghkeaaE3
import Derived.Test.YtofkafbcbghkeaaE6
import Derived.Test.YtofkafbcbghkeaaE8
import Derived.Test.YtofkafbcbghkeaaE10
import Derived.Test.YtofkafbcbghkeaaE16
import Derived.Test.YtofkafbcbghkeaaE17
import Derived.Test.YtofkafbcbghkeaaE18
import Derived.Test.YtofkafbcbghkeaaE19
import Derived.Test.YtofkafbcbghkeaaE20
import Derived.Test.YtofkafbcbghkeaaWLast
import Derived.Test.YtofkafbcbghkeaaWWords
namespace Go.Proofs.Ytofkafbcbghkeaa.E
open Go.RowKit Go.Proofs.YtofkafbcbghkeaaW.PrintWords Go.Proofs.YtofkafbcbghkeaaW.PrintLast
set_option linter.unusedVariables false
set_option linter.unusedSimpArgs false

-- OURS, BY HAND
/-! ### spec_IsTrueTalk: function 33 -/
-- func spec.IsTrueTalk
-- ext rounds=0 making=1
-- needs spec.taHas
-- needs spec.taPair
-- needs spec.taTalk
-- needs spec.taLeft
-- needs impl.isPair
-- needs impl.between
-- needs spec.l1In
def hasPair (xs : List (List Int)) (a b : Int) : Bool := xs.any fun x => (rd x 0 == a) && (rd x 1 == b)
def pairB (m a b : Int) : Bool := decide (2 ≤ m ∧ m ≤ 40) && (decide (1 ≤ a ∧ a ≤ b) && decide (1 ≤ b ∧ b ≤ m))
theorem between_is (n a b : Int) : impl_between.f n a b = some (decide (a ≤ n ∧ n ≤ b)) := by
  unfold impl_between.f
  by_cases h : n ≥ a
  · rw [if_pos h]; simp [h]
  · rw [if_neg h]; simp; omega
theorem l1In_is (n a b : Int) : spec_l1In.f n a b = some (decide (a ≤ n ∧ n ≤ b)) := by
  unfold spec_l1In.f
  by_cases h : n ≥ a
  · rw [if_pos h]; simp [h]
  · rw [if_neg h]; simp; omega
theorem isPair_is (m a b : Int) : impl_isPair.f m a b = some (pairB m a b) := by
  unfold impl_isPair.f pairB
  rw [isMost_is, Option.bind_some]
  by_cases h : 2 ≤ m ∧ m ≤ 40
  · rw [decide_eq_true h, if_pos rfl, between_is, Option.bind_some, Bool.true_and]
    by_cases h2 : 1 ≤ a ∧ a ≤ b
    · rw [decide_eq_true h2, if_pos rfl, between_is]; rfl
    · rw [decide_eq_false h2, if_neg (by simp)]; rfl
  · rw [decide_eq_false h, if_neg (by simp)]; rfl
theorem taPair_is (m a b : Int) : spec_taPair.f m a b = some (pairB m a b) := by
  unfold spec_taPair.f pairB
  rw [taLimit_is, Option.bind_some]
  by_cases h : 2 ≤ m ∧ m ≤ 40
  · rw [decide_eq_true h, if_pos rfl, l1In_is, Option.bind_some, Bool.true_and, Bool.and_comm]
    by_cases h2 : 1 ≤ b ∧ b ≤ m
    · rw [decide_eq_true h2, if_pos rfl, l1In_is]; rfl
    · rw [decide_eq_false h2, if_neg (by simp)]; rfl
  · rw [decide_eq_false h, if_neg (by simp)]; rfl
theorem has_loop (xs : List (List Int)) (ha : ∀ x ∈ xs, Ages x) (hn : xs.length ≤ 4000) (a b : Int) (d : Nat) : ∀ i : Nat, d = xs.length - i → i ≤ xs.length → ∃ K, spec_taHas.l0 K a b xs (xs.length : Int) (i : Int) = some (hasPair (xs.drop i) a b) := by
  induction d with
  | zero =>
    intro i hd hi
    obtain rfl : i = xs.length := by omega
    exact ⟨1, by rw [spec_taHas.l0, if_neg (by omega), List.drop_of_length_le (Nat.le_refl _)]; rfl⟩
  | succ d ih =>
    intro i hd hi
    have hlt : i < xs.length := by omega
    have c1 : (i : Int) < (xs.length : Int) := Int.ofNat_lt.2 hlt
    have hw2 : wrap64 ((i : Int) + 1) = ((i + 1 : Nat) : Int) := by unfold wrap64; omega
    obtain ⟨K, hK⟩ := ih (i + 1) (by omega) (by omega)
    have hl := (ha xs[i] (List.getElem_mem hlt)).len
    have e : hasPair (xs.drop i) a b = (((rd xs[i] 0 == a) && (rd xs[i] 1 == b)) || hasPair (xs.drop (i + 1)) a b) := by
      rw [List.drop_eq_getElem_cons hlt]; rfl
    refine ⟨K + 1, ?_⟩
    rw [spec_taHas.l0, if_pos c1, if_pos (Int.natCast_nonneg i), if_pos c1, rd_L1_at xs i hlt, hl, if_pos (by decide), hw2, e]
    by_cases h1 : rd xs[i] 0 = a
    · rw [if_pos h1, if_pos (by decide), h1, beq_self_eq_true, Bool.true_and]
      by_cases h2 : rd xs[i] 1 = b
      · rw [if_pos h2, h2, beq_self_eq_true, Bool.true_or]
      · rw [if_neg h2, beq_eq_false_iff_ne.2 h2, Bool.false_or]; exact hK
    · rw [if_neg h1, beq_eq_false_iff_ne.2 h1, Bool.false_and, Bool.false_or]; exact hK
theorem has_is (xs : List (List Int)) (ha : ∀ x ∈ xs, Ages x) (hn : xs.length ≤ 4000) (a b : Int) : ∃ K, spec_taHas.f K xs a b = some (hasPair xs a b) := has_loop xs ha hn a b xs.length 0 (by omega) (by omega)
def spec_IsTrueTalk.f (m a b : Int) (s : ByteArray) : Option (Bool × Bool) := if (pairB m a b && talkB s) = true then some (hasPair (leftList m s) a b, true) else some (false, false)
theorem valid_of_pair {m a b : Int} {s : ByteArray} (h : pairB m a b = true) (ht : talkB s = true) : validLT m s = true := by
  unfold pairB at h
  unfold validLT
  rw [(Bool.and_eq_true_iff.1 h).1, ht]; rfl
set_option maxHeartbeats 1600000 in
set_option maxRecDepth 100000 in
theorem spec_IsTrueTalk.calls (m a b : Int) (s : ByteArray) (r1 r2 : Bool) (W : World) (h : spec_IsTrueTalk.f m a b s = some (r1, r2)) :
    Calls Try.prog 33 #[.int .i64 m, .int .i64 a, .int .i64 b, .string s] W fun e w' => e = .returned (.tuple #[.bool r1, .bool r2]) ∧ Below W.heap.size W w' := by
  unfold spec_IsTrueTalk.f at h
  obtain ⟨K, hK, _⟩ := talk_K s
  have HA := Aside0.mk (fun w => spec_taPair.calls m a b _ w (taPair_is m a b))
  have HT := Aside0.mk (fun w => spec_taTalk.calls K s _ w hK)
  clear hK
  cases hp : pairB m a b with
  | false =>
    rw [hp] at HA
    rw [hp, Bool.false_and, if_neg (by simp)] at h
    simp only [Option.some.injEq, Prod.mk.injEq] at h
    obtain ⟨rfl, rfl⟩ := h
    clear hp
    go_enter Try.func33, Try.ntmps33
    go_wp2_with (go_at_call 60; (with_reducible refine (HA.out _).mono ?_); rintro e w' ⟨rfl, ⟨nd, rfl⟩⟩)
    go_ret2
    exact ⟨rfl, pw_below_drewN (Below.refl _ _) _⟩
  | true =>
    cases ht : talkB s with
    | false =>
      rw [hp] at HA
      rw [ht] at HT
      rw [hp, ht, if_neg (by simp)] at h
      simp only [Option.some.injEq, Prod.mk.injEq] at h
      obtain ⟨rfl, rfl⟩ := h
      clear hp ht
      go_enter Try.func33, Try.ntmps33
      go_wp2_with (first | (go_at_call 60; (with_reducible refine (HA.out _).mono ?_); rintro e w' ⟨rfl, ⟨nd, rfl⟩⟩) | (go_at_call 39; (with_reducible refine (HT.out _).mono ?_); rintro e w' ⟨rfl, ⟨nd2, rfl⟩⟩))
      go_ret2
      exact ⟨rfl, pw_below_drewN (Below.refl _ _) _⟩
    | true =>
      have hv := valid_of_pair hp ht
      have hm := (validLT_of hv).1.2
      obtain ⟨K2, hK2⟩ := has_is (leftList m s) (leftList_ages m s hm) (leftList_len m s hm) a b
      have HL := Aside0.mk (taLeft_of hv)
      have HH := Aside0.mk (fun A c w h h1 => spec_taHas.calls K2 A c (leftList m s) a b _ w h h1 hK2)
      rw [hp] at HA
      rw [ht] at HT
      rw [hp, ht, Bool.and_self, if_pos rfl] at h
      simp only [Option.some.injEq, Prod.mk.injEq] at h
      obtain ⟨rfl, rfl⟩ := h
      clear hp ht hv hm hK2
      go_enter Try.func33, Try.ntmps33
      go_wp2_with (first | (go_at_call 60; (with_reducible refine (HA.out _).mono ?_); rintro e w' ⟨rfl, ⟨nd, rfl⟩⟩) | (go_at_call 39; (with_reducible refine (HT.out _).mono ?_); rintro e w' ⟨rfl, ⟨nd2, rfl⟩⟩) | (go_at_call 53; (with_reducible refine (HL.out _).mono ?_); rintro e w1 ⟨A, c, rfl, hc, hC, hb⟩; have HC := Aside0.mk hC; have HB := Aside0.mk hb; clear hC hb) | (go_at_call 63; (with_reducible refine (HH.out _ _ _ HC.out hc).mono ?_); rintro e w' ⟨rfl, ⟨nd3, rfl⟩⟩))
      go_ret2
      exact ⟨rfl, pw_below_drewN (below_then (pw_below_drewN (Below.refl _ _) _) (by simp) HB.out) _⟩

end Go.Proofs.Ytofkafbcbghkeaa.E
