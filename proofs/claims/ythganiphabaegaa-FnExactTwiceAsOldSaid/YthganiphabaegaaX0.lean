-- WRITTEN by xprint.py, a program of this session that drives the kit's printer: out of the translation. Lean checks it.
import Derived.Test.YthganiphabaegaaProg
import Derived.Below
import Derived.Deep.Draws
import Derived.Deep.AppendLies
import Derived.Maps.AppendAt
import Derived.OwnWalk
import Derived.Laws.BytesArg
import Derived.Laws.MakeOwn
import Derived.Laws.OwnMore
import Derived.Deep.OwnRows
import Derived.Tactics
import Derived.Lib.ConvBytes
import Derived.Laws.Slices
import Derived.WalkKit
import Derived.KernelRfl
import Derived.RowKit3
import Derived.Deep.LoopGhost
import Derived.Deep.QuietTactic
import Derived.BigQuiet
import Derived.WideLaws
import Derived.Deep.DeepCutAuto
import Derived.Deep.CutBlock
import Derived.Deep.RegionHeld3
import Derived.Laws.Rows
import Derived.Lib.AppendStr
import Derived.ArgAppend
import Derived.Laws.IdiomCopy
import Derived.OrdersHeld
import Derived.Laws.BitsLemmas
import Derived.RowKit
import Derived.Test.YthganiphabaegaaWWords
import Derived.Test.YthganiphabaegaaWLast
import Derived.Test.YthganiphabaegaaWTab
import Derived.Test.YthganiphabaegaaWFour
import Derived.Test.YthganiphabaegaaWQPut
import Derived.Test.YthganiphabaegaaWApart
import Derived.Test.YthganiphabaegaaWArr
import Derived.Test.YthganiphabaegaaWZeros
import Derived.Test.YthganiphabaegaaWFoot
import Derived.Test.YthganiphabaegaaWKept
import Derived.Test.YthganiphabaegaaWShare
import Derived.Test.YthganiphabaegaaWN
import Derived.Test.YthganiphabaegaaWFootNe
import Derived.Test.YthganiphabaegaaWAt
import Derived.Test.YthganiphabaegaaWEqStruct
import Derived.Test.YthganiphabaegaaWRepsOne
import Derived.Test.YthganiphabaegaaWInv
import Derived.Test.YthganiphabaegaaWInvWords
import Derived.Test.YthganiphabaegaaWGuard
import Derived.Test.YthganiphabaegaaWNEv
import Derived.Test.YthganiphabaegaaWMore
namespace Go.Proofs.Ythganiphabaegaa.X
open Go.RowKit Go.Proofs.YthganiphabaegaaW.PrintWords Go.Proofs.YthganiphabaegaaW.PrintLast Go.Proofs.YthganiphabaegaaW.PrintMore
attribute [local go_sem] max2_int min2_int max_two min_two max_three min_three max_four min_four   -- for this text's walks alone
set_option linter.unusedVariables false
set_option linter.unusedSimpArgs false



def errW : Option Int → Value
  | none => .nilIface
  | some c => .iface 0 (.int .i64 c)
theorem errW_none : errW none = .nilIface := rfl
theorem errW_some (c : Int) : errW (some c) = .iface 0 (.int .i64 c) := rfl

-- the values' own types

end Go.Proofs.Ythganiphabaegaa.X
