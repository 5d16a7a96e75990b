-- WRITTEN by xprint.py, a program of this session that drives the kit's printer: out of the translation. Lean checks it.
import Derived.Test.YtofkafbcbghkeaaX0
import Derived.Test.YtofkafbcbghkeaaX2
import Derived.Test.YtofkafbcbghkeaaX16
import Derived.Test.YtofkafbcbghkeaaX19
import Derived.Test.YtofkafbcbghkeaaWLast
import Derived.Test.YtofkafbcbghkeaaWWords
namespace Go.Proofs.Ytofkafbcbghkeaa.X
open Go.RowKit Go.Proofs.YtofkafbcbghkeaaW.PrintWords Go.Proofs.YtofkafbcbghkeaaW.PrintLast
set_option linter.unusedVariables false
set_option linter.unusedSimpArgs false

-- OURS, BY HAND
/-! ### spec_IsToldByTalk: function 25 -/
-- func spec.IsToldByTalk
-- ext rounds=0 making=1
-- needs spec.taLeft
-- needs spec.taBoth
def spec_IsToldByTalk.f (m : Int) (s : ByteArray) : Option (Bool × Bool) := if validLT m s = true then some ((((leftList m s).length : Int) == 1), true) else some (false, false)
set_option maxHeartbeats 1600000 in
set_option maxRecDepth 100000 in
theorem spec_IsToldByTalk.calls (m : Int) (s : ByteArray) (r1 r2 : Bool) (W : World) (h : spec_IsToldByTalk.f m s = some (r1, r2)) :
    Calls Try.prog 25 #[.int .i64 m, .string s] W fun e w' => e = .returned (.tuple #[.bool r1, .bool r2]) ∧ Below W.heap.size W w' := by
  unfold spec_IsToldByTalk.f at h
  obtain ⟨K, hK⟩ := taBoth_is m s
  have HA := Aside0.mk (fun w => spec_taBoth.calls K m s _ w hK)
  cases hv : validLT m s with
  | true =>
    have HL := Aside0.mk (taLeft_of hv)
    rw [hv] at HA
    rw [hv, if_pos rfl] at h
    simp only [Option.some.injEq, Prod.mk.injEq] at h
    obtain ⟨rfl, rfl⟩ := h
    clear hv hK
    go_enter Try.func25, Try.ntmps25
    go_wp2_with (first | (go_at_call 52; (with_reducible refine (HA.out _).mono ?_); rintro e w' ⟨rfl, ⟨nd, rfl⟩⟩) | (go_at_call 53; (with_reducible refine (HL.out _).mono ?_); rintro e w1 ⟨A, c, rfl, hc, hC, hb⟩; have HB := Aside0.mk hb; clear hC hb))
    go_ret2
    exact ⟨rfl, below_then (pw_below_drewN (Below.refl _ _) _) (by simp) HB.out⟩
  | false =>
    rw [hv] at HA
    rw [hv, if_neg (by simp)] at h
    simp only [Option.some.injEq, Prod.mk.injEq] at h
    obtain ⟨rfl, rfl⟩ := h
    clear hv hK
    go_enter Try.func25, Try.ntmps25
    go_wp2_with (go_at_call 52; (with_reducible refine (HA.out _).mono ?_); rintro e w' ⟨rfl, ⟨nd, rfl⟩⟩)
    go_ret2
    exact ⟨rfl, pw_below_drewN (Below.refl _ _) _⟩

end Go.Proofs.Ytofkafbcbghkeaa.X
