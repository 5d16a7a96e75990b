-- WRITTEN by xprint.py, a program of this session that drives the kit's printer: out of the translation. Lean checks it.
import Derived.Test.YtibdnpghpbimmaaDoorE0
import Derived.Test.YtibdnpghpbimmaaDoorWLast
import Derived.Test.YtibdnpghpbimmaaDoorWWords
namespace Go.Proofs.YtibdnpghpbimmaaDoor.E
open Go.RowKit Go.Proofs.YtibdnpghpbimmaaDoorW.PrintWords Go.Proofs.YtibdnpghpbimmaaDoorW.PrintLast
set_option linter.unusedVariables false
set_option linter.unusedSimpArgs false

-- OURS, BY HAND
/-! ### strings_Cut: function 17 -/
-- func strings.Cut
-- ext rounds=0 making=0
-- seat YtibdnpghpbimmaaDoor
-- import Derived.Test.YtibdnpghpbimmaaDoorVr
def strings_Cut.f (a0 : ByteArray) (a1 : ByteArray) : Option (ByteArray × ByteArray × Bool) := if a0.size < 4294967281 ∧ a1.data.toList = [46] then some (cutA a0, cutB a0, (Lib.cut a0.data.toList [46]).2.2) else none
theorem strings_Cut.calls (a0 : ByteArray) (a1 : ByteArray) (r1 : ByteArray) (r2 : ByteArray) (r3 : Bool) (w : World) (hV : Vars w) (h : strings_Cut.f a0 a1 = some (r1, r2, r3)) :
    Calls Tryd.prog 17 #[.string a0, .string a1] w fun e w' => e = .returned (.tuple #[.string r1, .string r2, .bool r3]) ∧ Drawn0 w w' := by
  unfold strings_Cut.f at h
  split at h
  · rename_i h1
    obtain ⟨⟨l⟩⟩ := a1
    obtain rfl : l = [46] := h1.2
    simp only [Option.some.injEq, Prod.mk.injEq] at h
    obtain ⟨rfl, rfl, rfl⟩ := h
    exact cut_calls a0 h1.1 w hV
  · cases h

end Go.Proofs.YtibdnpghpbimmaaDoor.E
