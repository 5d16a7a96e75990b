-- WRITTEN by xprint.py, a program of this session that drives the kit's printer: out of the translation. Lean checks it.
import Derived.Test.YtofkafbcbghkeaaE0
import Derived.Test.YtofkafbcbghkeaaE2
import Derived.Test.YtofkafbcbghkeaaE4
import Derived.Test.YtofkafbcbghkeaaE8
import Derived.Test.YtofkafbcbghkeaaE9
import Derived.Test.YtofkafbcbghkeaaE16
import Derived.Test.YtofkafbcbghkeaaE22
import Derived.Test.YtofkafbcbghkeaaE24
import Derived.Test.YtofkafbcbghkeaaWLast
import Derived.Test.YtofkafbcbghkeaaWWords
namespace Go.Proofs.Ytofkafbcbghkeaa.E
open Go.RowKit Go.Proofs.YtofkafbcbghkeaaW.PrintWords Go.Proofs.YtofkafbcbghkeaaW.PrintLast
set_option linter.unusedVariables false
set_option linter.unusedSimpArgs false

-- OURS, BY HAND
/-! ### impl_CountNeverKnown: function 30 -/
-- func impl.CountNeverKnown
-- ext rounds=0 making=1
-- needs spec.KnownAfter
-- needs impl.knowing
-- needs impl.isMost
-- needs impl.isWho
-- import Derived.Maps.Own
-- import Derived.Maps.OwnOps
-- import Derived.Maps.OwnSet
-- import Derived.Maps.Views
-- import Derived.WideKeyArr
-- import Derived.WalkKit
-- import Derived.WalkSpells
-- import Derived.Deep.RegionWith
-- import Derived.Deep.RegionLaw
-- import Derived.IntWalk
-- seat Ytofkafbcbghkeaa
def impl_CountNeverKnown.f (m : Int) (s : ByteArray) : Option (Int × Bool) := if (decide (2 ≤ m ∧ m ≤ 40) && kwWho s) = true then some (((kwState m.toNat (kwSum s) (kwEnd m.toNat (kwSum s))).1.length : Int), true) else some (0, false)
set_option maxHeartbeats 1600000 in
theorem impl_CountNeverKnown.calls (m : Int) (s : ByteArray) (r1 : Int) (r2 : Bool) (W : World) (h : impl_CountNeverKnown.f m s = some (r1, r2)) :
    Calls Try.prog 30 #[.int .i64 m, .string s] W fun e w' => e = .returned (.tuple #[.int .i64 r1, .bool r2]) ∧ Below W.heap.size W w' := by
  unfold impl_CountNeverKnown.f at h
  have HA := Aside0.mk (fun w => impl_isMost.calls m _ w (isMost_is m))
  have HT := Aside0.mk (fun w => impl_isWho.calls s (kwWho s) w (who_is2 s))
  cases hp : decide (2 ≤ m ∧ m ≤ 40) with
  | false =>
    rw [hp] at HA
    rw [hp, Bool.false_and, if_neg (by simp)] at h
    simp only [Option.some.injEq, Prod.mk.injEq] at h
    obtain ⟨rfl, rfl⟩ := h
    clear hp
    go_enter Try.func30, Try.ntmps30
    go_wp2_with (go_at_call 44; (with_reducible refine (HA.out _).mono ?_); rintro e w' ⟨rfl, ⟨nd, rfl⟩⟩)
    go_ret2
    exact ⟨rfl, pw_below_drewN (Below.refl _ _) _⟩
  | true =>
    cases ht : kwWho s with
    | false =>
      rw [hp] at HA
      rw [ht] at HT
      rw [hp, ht, if_neg (by simp)] at h
      simp only [Option.some.injEq, Prod.mk.injEq] at h
      obtain ⟨rfl, rfl⟩ := h
      clear hp ht
      go_enter Try.func30, Try.ntmps30
      go_wp2_with (first | (go_at_call 44; (with_reducible refine (HA.out _).mono ?_); rintro e w' ⟨rfl, ⟨nd, rfl⟩⟩) | (go_at_call 57; (with_reducible refine (HT.out _).mono ?_); rintro e w' ⟨rfl, ⟨nd2, rfl⟩⟩))
      go_ret2
      exact ⟨rfl, pw_below_drewN (Below.refl _ _) _⟩
    | true =>
      have hm := of_decide_eq_true hp
      have hw := who_of ht
      have HK := Aside0.mk (fun W => knowing_calls m.toNat (by omega) (kwSum s) W)
      have HP := Aside0.mk (fun W => allPairs_calls m.toNat (by omega) W)
      rw [Int.toNat_of_nonneg (by omega), ← hw] at HK
      rw [Int.toNat_of_nonneg (by omega)] at HP
      have hl := kst_len m.toNat (kwSum s) (kwEnd m.toNat (kwSum s))
      have hsm := prs_small m.toNat (by omega)
      rw [hp] at HA
      rw [ht] at HT
      rw [hp, ht, Bool.and_self, if_pos rfl] at h
      simp only [Option.some.injEq, Prod.mk.injEq] at h
      obtain ⟨rfl, rfl⟩ := h
      obtain ⟨ln, hln⟩ : ∃ ln, ln = (kwState m.toNat (kwSum s) (kwEnd m.toNat (kwSum s))).1.length := ⟨_, rfl⟩
      obtain ⟨lp, hlp⟩ : ∃ lp, lp = (prs m.toNat m.toNat).length := ⟨_, rfl⟩
      rw [← hln] at HK hl ⊢
      rw [← hlp] at HK HP hl hsm
      clear hp ht hw hm hln hlp
      go_enter Try.func30, Try.ntmps30
      go_wp2_with (first | (go_at_call 44; (with_reducible refine (HA.out _).mono ?_); rintro e w' ⟨rfl, ⟨nd, rfl⟩⟩) | (go_at_call 57; (with_reducible refine (HT.out _).mono ?_); rintro e w' ⟨rfl, ⟨nd2, rfl⟩⟩) | (go_at_call 58; (with_reducible refine (HP.out _).mono ?_); rintro e w3 ⟨A3, c3, rfl, q3, hC3, hb3⟩; have HB3 := Aside0.mk hb3; clear hC3 hb3) | (go_at_call 59; (with_reducible refine (HK.out _).mono ?_); rintro e w1 ⟨rfl, ⟨D, hown, hat, hsz⟩, hb⟩; have HB := Aside0.mk hb; have HO := Aside0.mk hown; clear hb hown hat) | (at_len; refine wpList_len_own _ rfl _ 55 rfl 59 3 Try.underlying55 _ _ _ D rfl HO.out ?_))
      go_ret2
      refine ⟨?_, below_then (pw_below_drewN (Below.refl _ _) _) (by simp) (below_step HB3.out HB.out)⟩
      have e : (ln : Int) = (lp : Int) - ((lp - ln : Nat) : Int) := by omega
      rw [e]
      rfl

end Go.Proofs.Ytofkafbcbghkeaa.E
