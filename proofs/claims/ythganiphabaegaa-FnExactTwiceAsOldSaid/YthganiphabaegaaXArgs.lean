-- WRITTEN by xprint.py, a program of this session. Lean checks it.
import Derived.Test.YthganiphabaegaaX0
import Derived.Deep.Slices
import Derived.Deep.Fields
import Derived.ChangeSame
import Derived.Lib.SmallJoins
import Derived.Test.YthganiphabaegaaWSized
namespace Go.Proofs.Ythganiphabaegaa.X
open Go.RowKit Go.ChangeShapes Go.WideShapes Go.Deep Go.Proofs.YthganiphabaegaaW.PrintWords Go.Proofs.YthganiphabaegaaW.PrintLast
set_option linter.unusedVariables false
end Go.Proofs.Ythganiphabaegaa.X
