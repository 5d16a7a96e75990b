-- WRITTEN by xprint.py, a program of this session that drives the kit's printer: out of the translation. Lean checks it.
import Derived.Test.YtibdnpghpbimmaaDoorE0
import Derived.Test.YtibdnpghpbimmaaDoorWLast
import Derived.Test.YtibdnpghpbimmaaDoorWWords
namespace Go.Proofs.YtibdnpghpbimmaaDoor.E
open Go.RowKit Go.Proofs.YtibdnpghpbimmaaDoorW.PrintWords Go.Proofs.YtibdnpghpbimmaaDoorW.PrintLast
set_option linter.unusedVariables false
set_option linter.unusedSimpArgs false

-- OURS, BY HAND
/-! ### impl_readNumber: function 18 -/
-- func impl.readNumber
-- ext rounds=0 making=1
-- seat YtibdnpghpbimmaaDoor
-- import Derived.Test.YtibdnpghpbimmaaDoorVr
def impl_readNumber.f (a0 : ByteArray) : Option (Int × Bool) := if a0.size ≤ 1048576 then some (rnV a0, rnB a0) else none
theorem impl_readNumber.calls (a0 : ByteArray) (r1 : Int) (r2 : Bool) (w : World) (hV : Vars w) (h : impl_readNumber.f a0 = some (r1, r2)) :
    Calls Tryd.prog 18 #[.string a0] w fun e w' => e = .returned (.tuple #[.int .i64 r1, .bool r2]) ∧ Below w.heap.size w w' := by
  unfold impl_readNumber.f at h
  split at h
  · rename_i h1
    simp only [Option.some.injEq, Prod.mk.injEq] at h
    obtain ⟨rfl, rfl⟩ := h
    exact readNumber_calls a0 h1 w hV
  · cases h

end Go.Proofs.YtibdnpghpbimmaaDoor.E
