-- WRITTEN by xprint.py, a program of this session that drives the kit's printer: out of the translation. Lean checks it.
import Derived.Test.YtibdnpghpbimmaaDoorE0
import Derived.Test.YtibdnpghpbimmaaDoorWLast
import Derived.Test.YtibdnpghpbimmaaDoorWWords
namespace Go.Proofs.YtibdnpghpbimmaaDoor.E
open Go.RowKit Go.Proofs.YtibdnpghpbimmaaDoorW.PrintWords Go.Proofs.YtibdnpghpbimmaaDoorW.PrintLast
set_option linter.unusedVariables false
set_option linter.unusedSimpArgs false

-- OURS, BY HAND
/-! ### strings_Split: function 10 -/
-- func strings.Split
-- ext rounds=0 making=1
-- seat YtibdnpghpbimmaaDoor
-- import Derived.Test.YtibdnpghpbimmaaDoorVr
def strings_Split.f (a0 : ByteArray) (a1 : ByteArray) : Option (List ByteArray) := if a0.size < 4294967281 ∧ a1.size = 1 then some (Lib.splitB a1 0 (Lib.countB a0 a1) a0) else none
theorem one_byte (a : ByteArray) (h : a.size = 1) : ∃ c, a = ⟨#[c]⟩ := by
  obtain ⟨⟨l⟩⟩ := a
  have h' : l.length = 1 := by simpa [ByteArray.size] using h
  match l, h' with
  | [c], _ => exact ⟨c, rfl⟩
theorem strings_Split.calls (a0 : ByteArray) (a1 : ByteArray) (r : List ByteArray) (w : World) (hV : Vars w) (h : strings_Split.f a0 a1 = some r) :
    Calls Tryd.prog 10 #[.string a0, .string a1] w fun e w' => ∃ v0_ : Value, e = .returned (v0_) ∧ Kd.R Kd.string 9 w' w.heap.size (fun _ => True) v0_ r ∧ Below w.heap.size w w' := by
  unfold strings_Split.f at h
  split at h
  · rename_i h1
    obtain ⟨c, rfl⟩ := one_byte a1 h1.2
    obtain rfl := Option.some.inj h
    exact split_calls a0 c h1.1 w hV
  · cases h

end Go.Proofs.YtibdnpghpbimmaaDoor.E
