-- WRITTEN by xprint.py, a program of this session that drives the kit's printer: out of the translation. Lean checks it.
import Derived.Test.YtofkafbcbghkeaaE0
import Derived.Test.YtofkafbcbghkeaaE1
import Derived.Test.YtofkafbcbghkeaaE10
import Derived.Test.YtofkafbcbghkeaaE16
import Derived.Test.YtofkafbcbghkeaaE20
import Derived.Test.YtofkafbcbghkeaaE21
import Derived.Test.YtofkafbcbghkeaaE22
import Derived.Test.YtofkafbcbghkeaaE23
import Derived.Test.YtofkafbcbghkeaaE24
import Derived.Test.YtofkafbcbghkeaaWLast
import Derived.Test.YtofkafbcbghkeaaWWords
namespace Go.Proofs.Ytofkafbcbghkeaa.E
open Go.RowKit Go.Proofs.YtofkafbcbghkeaaW.PrintWords Go.Proofs.YtofkafbcbghkeaaW.PrintLast
set_option linter.unusedVariables false
set_option linter.unusedSimpArgs false

-- OURS, BY HAND
/-! ### impl_KnownAfter: function 32 -/
-- func impl.KnownAfter
-- ext rounds=0 making=1
-- needs spec.KnownAfter
-- needs impl.knowing
-- needs impl.isPair
-- needs impl.isWho
-- import Derived.Maps.Own
-- import Derived.Maps.OwnOps
-- import Derived.Maps.OwnSet
-- import Derived.Maps.Views
-- import Derived.WideKeyArr
-- import Derived.WalkKit
-- import Derived.WalkSpells
-- import Derived.Deep.RegionWith
-- import Derived.Deep.RegionLaw
-- import Derived.IntWalk
-- seat Ytofkafbcbghkeaa
def impl_KnownAfter.f (m a b : Int) (s : ByteArray) : Option (Int × Bool) := spec_KnownAfter.f m a b s
theorem hs_known (m : Nat) (b0 : Bool) (a b : Int) : kwHas m b0 (kwEnd m b0) a b = decide (0 < knownAt m b0 a b) := by
  cases h : kwHas m b0 (kwEnd m b0) a b with
  | true => exact (decide_eq_true (tm_pos m b0 a b _ h)).symm
  | false =>
    have := tm_zero m b0 a b _ h
    unfold knownAt
    rw [this]
    rfl
set_option maxHeartbeats 1600000 in
theorem impl_KnownAfter.calls (m a b : Int) (s : ByteArray) (r1 : Int) (r2 : Bool) (W : World) (h : impl_KnownAfter.f m a b s = some (r1, r2)) :
    Calls Try.prog 32 #[.int .i64 m, .int .i64 a, .int .i64 b, .string s] W fun e w' => e = .returned (.tuple #[.int .i64 r1, .bool r2]) ∧ Below W.heap.size W w' := by
  unfold impl_KnownAfter.f spec_KnownAfter.f at h
  have HA := Aside0.mk (fun w => impl_isPair.calls m a b _ w (isPair_is m a b))
  have HT := Aside0.mk (fun w => impl_isWho.calls s (kwWho s) w (who_is2 s))
  cases hp : pairB m a b with
  | false =>
    rw [hp] at HA
    rw [hp, Bool.false_and, if_neg (by simp)] at h
    simp only [Option.some.injEq, Prod.mk.injEq] at h
    obtain ⟨rfl, rfl⟩ := h
    clear hp
    go_enter Try.func32, Try.ntmps32
    go_wp2_with (go_at_call 62; (with_reducible refine (HA.out _).mono ?_); rintro e w' ⟨rfl, ⟨nd, rfl⟩⟩)
    go_ret2
    exact ⟨rfl, pw_below_drewN (Below.refl _ _) _⟩
  | true =>
    cases ht : kwWho s with
    | false =>
      rw [hp] at HA
      rw [ht] at HT
      rw [hp, ht, if_neg (by simp)] at h
      simp only [Option.some.injEq, Prod.mk.injEq] at h
      obtain ⟨rfl, rfl⟩ := h
      clear hp ht
      go_enter Try.func32, Try.ntmps32
      go_wp2_with (first | (go_at_call 62; (with_reducible refine (HA.out _).mono ?_); rintro e w' ⟨rfl, ⟨nd, rfl⟩⟩) | (go_at_call 57; (with_reducible refine (HT.out _).mono ?_); rintro e w' ⟨rfl, ⟨nd2, rfl⟩⟩))
      go_ret2
      exact ⟨rfl, pw_below_drewN (Below.refl _ _) _⟩
    | true =>
      obtain ⟨hm, hab, hpr⟩ := pair_of hp
      have hw := who_of ht
      have HK := Aside0.mk (fun W => knowing_calls m.toNat (by omega) (kwSum s) W)
      rw [Int.toNat_of_nonneg (by omega), ← hw] at HK
      have HWA := Aside0.mk (show (Lit.int .i64 a).wf = true from WalkArith.wf_i64 (by omega))
      have HWB := Aside0.mk (show (Lit.int .i64 b).wf = true from WalkArith.wf_i64 (by omega))
      have HH := Aside0.mk (hs_known m.toNat (kwSum s) a b)
      rw [hp] at HA
      rw [ht] at HT
      rw [hp, ht, Bool.and_self, if_pos rfl] at h
      simp only [Option.some.injEq, Prod.mk.injEq] at h
      obtain ⟨rfl, rfl⟩ := h
      clear hp ht hm hpr hw
      go_enter Try.func32, Try.ntmps32
      go_wp2_with (first | (go_at_call 62; (with_reducible refine (HA.out _).mono ?_); rintro e w' ⟨rfl, ⟨nd, rfl⟩⟩) | (go_at_call 57; (with_reducible refine (HT.out _).mono ?_); rintro e w' ⟨rfl, ⟨nd2, rfl⟩⟩) | (go_at_call 59; (with_reducible refine (HK.out _).mono ?_); rintro e w1 ⟨rfl, ⟨D, hown, hat, hsz⟩, hb⟩; have HB := Aside0.mk hb; have HO := Aside0.mk hown; have HAT := Aside0.mk (hat a b HWA.out HWB.out); clear hb hown hat hsz) | (at_lookup; refine wpList_lookup_own_ok_int _ rfl _ _ 55 rfl 59 3 .i64 law59 Try.underlying55 Try.underlying3 (zero3 _) _ _ D rfl HO.out _ _ rfl (kwKey_is HWA.out HWB.out) ?_; intro c hat2 hwc; have HC2 := Aside0.mk hat2; clear hat2 hwc))
      go_ret2
      have e1 := HAT.out.1.symm.trans HC2.out
      injection e1 with e1
      injection e1 with _ e1
      refine ⟨?_, below_then (pw_below_drewN (Below.refl _ _) _) (by simp) HB.out⟩
      rw [← e1, HAT.out.2, HH.out]
      rfl

end Go.Proofs.Ytofkafbcbghkeaa.E
