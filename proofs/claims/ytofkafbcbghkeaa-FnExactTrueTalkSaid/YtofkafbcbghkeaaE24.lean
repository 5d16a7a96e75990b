-- WRITTEN by xprint.py, a program of this session that drives the kit's printer: out of the translation. Lean checks it.
import Derived.Test.YtofkafbcbghkeaaE0
import Derived.Test.YtofkafbcbghkeaaE1
import Derived.Test.YtofkafbcbghkeaaE8
import Derived.Test.YtofkafbcbghkeaaE10
import Derived.Test.YtofkafbcbghkeaaE16
import Derived.Test.YtofkafbcbghkeaaE17
import Derived.Test.YtofkafbcbghkeaaE21
import Derived.Test.YtofkafbcbghkeaaE22
import Derived.Test.YtofkafbcbghkeaaE23
import Derived.Test.YtofkafbcbghkeaaWLast
import Derived.Test.YtofkafbcbghkeaaWWords
namespace Go.Proofs.Ytofkafbcbghkeaa.E
open Go.RowKit Go.Proofs.YtofkafbcbghkeaaW.PrintWords Go.Proofs.YtofkafbcbghkeaaW.PrintLast
set_option linter.unusedVariables false
set_option linter.unusedSimpArgs false

-- OURS, BY HAND
/-! ### spec_KnownAfter: function 31 -/
-- func spec.KnownAfter
-- ext rounds=0 making=1
-- needs spec.taKnown
-- needs spec.taPair
-- needs spec.taWho
-- needs impl.PairsLeft
-- import Derived.Maps.Own
-- import Derived.Maps.OwnOps
-- import Derived.Maps.OwnSet
-- import Derived.Maps.Views
-- import Derived.WideKeyArr
-- import Derived.WalkKit
-- import Derived.WalkSpells
-- import Derived.Deep.RegionWith
-- import Derived.Deep.RegionLaw
-- import Derived.IntWalk
-- seat Ytofkafbcbghkeaa
def kwWho (s : ByteArray) : Bool := s.toList == [115] || s.toList == [112]
def kwSum (s : ByteArray) : Bool := s.toList == [115]
theorem who_of {s : ByteArray} (h : kwWho s = true) : s = whoB (kwSum s) := by
  unfold kwWho at h
  unfold kwSum
  cases h1 : (s.toList == [115]) with
  | true => exact bytes_of (t := #[115]) (beq_iff_eq.1 h1)
  | false =>
    rw [h1, Bool.false_or] at h
    exact bytes_of (t := #[112]) (beq_iff_eq.1 h)
theorem rows_has (m a b : Nat) (h1 : a ≤ b) (h2 : b ≤ m) : [(a : Int), (b : Int)] ∈ rowsOf m a := by
  have := rowsOf_get m a (b - a) (by omega)
  rw [show a + (b - a) = b by omega] at this
  exact List.mem_of_getElem? this
theorem prs_has (m a b : Nat) (h0 : 1 ≤ a) (h1 : a ≤ b) (h2 : b ≤ m) : ∀ k, a ≤ k → [(a : Int), (b : Int)] ∈ prs m k
  | 0, h => absurd h (by omega)
  | k + 1, h => by
    unfold prs
    by_cases e : a = k + 1
    · subst e
      exact List.mem_append_right _ (rows_has m (k + 1) b h1 h2)
    · exact List.mem_append_left _ (prs_has m a b h0 h1 h2 k (by omega))
theorem pair_of {m a b : Int} (h : pairB m a b = true) : (2 ≤ m ∧ m ≤ 40) ∧ (1 ≤ a ∧ a ≤ b ∧ b ≤ m) ∧ [a, b] ∈ prs m.toNat m.toNat := by
  unfold pairB at h
  obtain ⟨h1, h2⟩ := Bool.and_eq_true_iff.1 h
  obtain ⟨h3, h4⟩ := Bool.and_eq_true_iff.1 h2
  have h1 := of_decide_eq_true h1
  have h3 := of_decide_eq_true h3
  have h4 := of_decide_eq_true h4
  refine ⟨h1, ⟨h3.1, h3.2, h4.2⟩, ?_⟩
  have := prs_has m.toNat a.toNat b.toNat (by omega) (by omega) (by omega) m.toNat (by omega)
  rwa [Int.toNat_of_nonneg (by omega), Int.toNat_of_nonneg (by omega)] at this
theorem known_wf (m : Nat) (b0 : Bool) (hm : m ≤ 40) (a b : Int) : 0 ≤ knownAt m b0 a b ∧ knownAt m b0 a b ≤ 5000 := by
  have h := tm_le m b0 a b (kwEnd m b0)
  have h2 := kwGoes_up m b0 hm (kwEnd m b0) (endN_is m b0).2
  unfold knownAt
  omega
def spec_KnownAfter.f (m a b : Int) (s : ByteArray) : Option (Int × Bool) := if (pairB m a b && kwWho s) = true then some (knownAt m.toNat (kwSum s) a b, decide (0 < knownAt m.toNat (kwSum s) a b)) else some (0, false)
set_option maxHeartbeats 1600000 in
theorem spec_KnownAfter.calls (m a b : Int) (s : ByteArray) (r1 : Int) (r2 : Bool) (W : World) (h : spec_KnownAfter.f m a b s = some (r1, r2)) :
    Calls Try.prog 31 #[.int .i64 m, .int .i64 a, .int .i64 b, .string s] W fun e w' => e = .returned (.tuple #[.int .i64 r1, .bool r2]) ∧ Below W.heap.size W w' := by
  unfold spec_KnownAfter.f at h
  have HA := Aside0.mk (fun w => spec_taPair.calls m a b _ w (taPair_is m a b))
  have HT := Aside0.mk (fun w => spec_taWho.calls s (kwWho s) w (who_is s))
  cases hp : pairB m a b with
  | false =>
    rw [hp] at HA
    rw [hp, Bool.false_and, if_neg (by simp)] at h
    simp only [Option.some.injEq, Prod.mk.injEq] at h
    obtain ⟨rfl, rfl⟩ := h
    clear hp
    go_enter Try.func31, Try.ntmps31
    go_wp2_with (go_at_call 60; (with_reducible refine (HA.out _).mono ?_); rintro e w' ⟨rfl, ⟨nd, rfl⟩⟩)
    go_ret2
    exact ⟨rfl, pw_below_drewN (Below.refl _ _) _⟩
  | true =>
    cases ht : kwWho s with
    | false =>
      rw [hp] at HA
      rw [ht] at HT
      rw [hp, ht, if_neg (by simp)] at h
      simp only [Option.some.injEq, Prod.mk.injEq] at h
      obtain ⟨rfl, rfl⟩ := h
      clear hp ht
      go_enter Try.func31, Try.ntmps31
      go_wp2_with (first | (go_at_call 60; (with_reducible refine (HA.out _).mono ?_); rintro e w' ⟨rfl, ⟨nd, rfl⟩⟩) | (go_at_call 55; (with_reducible refine (HT.out _).mono ?_); rintro e w' ⟨rfl, ⟨nd2, rfl⟩⟩))
      go_ret2
      exact ⟨rfl, pw_below_drewN (Below.refl _ _) _⟩
    | true =>
      obtain ⟨hm, hab, hpr⟩ := pair_of hp
      have hw := who_of ht
      have HK := Aside0.mk (fun W => taKnown_calls m.toNat (by omega) (kwSum s) a b hpr W)
      rw [Int.toNat_of_nonneg (by omega), ← hw] at HK
      have hkw := known_wf m.toNat (kwSum s) (by omega) a b
      rw [hp] at HA
      rw [ht] at HT
      rw [hp, ht, Bool.and_self, if_pos rfl] at h
      simp only [Option.some.injEq, Prod.mk.injEq] at h
      obtain ⟨rfl, rfl⟩ := h
      obtain ⟨kn, hkn⟩ : ∃ kn, kn = knownAt m.toNat (kwSum s) a b := ⟨_, rfl⟩
      rw [← hkn] at HK hkw ⊢
      have e : (kn > 0) = (0 < kn) := rfl
      clear hp ht hm hpr hw hkn
      go_enter Try.func31, Try.ntmps31
      go_wp2_with (first | (go_at_call 60; (with_reducible refine (HA.out _).mono ?_); rintro e w' ⟨rfl, ⟨nd, rfl⟩⟩) | (go_at_call 55; (with_reducible refine (HT.out _).mono ?_); rintro e w' ⟨rfl, ⟨nd2, rfl⟩⟩) | (go_at_call 61; (with_reducible refine (HK.out _).mono ?_); rintro e w1 ⟨rfl, hb⟩; have HB := Aside0.mk hb; clear hb))
      go_ret2
      exact ⟨rfl, below_then (pw_below_drewN (Below.refl _ _) _) (by simp) HB.out⟩

end Go.Proofs.Ytofkafbcbghkeaa.E
