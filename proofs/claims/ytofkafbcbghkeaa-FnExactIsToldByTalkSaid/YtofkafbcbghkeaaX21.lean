-- WRITTEN by xprint.py, a program of this session that drives the kit's printer: out of the translation. Lean checks it.
import Derived.Test.YtofkafbcbghkeaaX0
import Derived.Test.YtofkafbcbghkeaaX16
import Derived.Test.YtofkafbcbghkeaaWLast
import Derived.Test.YtofkafbcbghkeaaWWords
namespace Go.Proofs.Ytofkafbcbghkeaa.X
open Go.RowKit Go.Proofs.YtofkafbcbghkeaaW.PrintWords Go.Proofs.YtofkafbcbghkeaaW.PrintLast
set_option linter.unusedVariables false
set_option linter.unusedSimpArgs false

-- OURS, BY HAND
/-! ### impl_CountLeft: function 24 -/
-- func impl.CountLeft
-- ext rounds=0 making=1
-- needs impl.PairsLeft
def impl_CountLeft.f (m : Int) (s : ByteArray) : Option (Int × Bool) := if validLT m s = true then some (((leftList m s).length : Int), true) else some (0, false)
set_option maxHeartbeats 1600000 in
set_option maxRecDepth 100000 in
theorem impl_CountLeft.calls (m : Int) (s : ByteArray) (r1 : Int) (r2 : Bool) (W : World) (h : impl_CountLeft.f m s = some (r1, r2)) :
    Calls Try.prog 24 #[.int .i64 m, .string s] W fun e w' => e = .returned (.tuple #[.int .i64 r1, .bool r2]) ∧ Below W.heap.size W w' := by
  unfold impl_CountLeft.f at h
  have HP := Aside0.mk (PairsLeft_calls m s W)
  cases hv : validLT m s with
  | true =>
    simp only [hv, if_true] at HP h
    simp only [Option.some.injEq, Prod.mk.injEq] at h
    obtain ⟨rfl, rfl⟩ := h
    clear hv
    go_enter Try.func24, Try.ntmps24
    go_wp2_with (go_at_call 54; (with_reducible refine HP.out.mono ?_); rintro e w1 ⟨A, c, rfl, hc, hC, hb⟩; have HB := Aside0.mk hb; clear hC hb)
    go_ret2
    exact ⟨rfl, HB.out⟩
  | false =>
    simp only [hv, Bool.false_eq_true, if_false] at HP h
    simp only [Option.some.injEq, Prod.mk.injEq] at h
    obtain ⟨rfl, rfl⟩ := h
    clear hv
    go_enter Try.func24, Try.ntmps24
    go_wp2_with (go_at_call 54; (with_reducible refine HP.out.mono ?_); rintro e w1 ⟨rfl, hb⟩; have HB := Aside0.mk hb; clear hb)
    go_ret2
    exact ⟨rfl, HB.out⟩

end Go.Proofs.Ytofkafbcbghkeaa.X
