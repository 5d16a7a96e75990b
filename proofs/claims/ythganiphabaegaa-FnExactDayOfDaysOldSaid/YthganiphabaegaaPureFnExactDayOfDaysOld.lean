/- The program's DayOfDaysOld returns what the reference's returns, for all arguments. No condition. -/
import Derived.Test.YthganiphabaegaaX1
import Derived.Test.YthganiphabaegaaX2
namespace Go.Proofs.Ythganiphabaegaa.Pure
open Go.RowKit Go.Proofs.Ythganiphabaegaa.X Go.Proofs.YthganiphabaegaaW.PrintWords Go.Proofs.YthganiphabaegaaW.PrintLast

theorem dodo_some (y d n : Int) : ∃ r, spec_DayOfDaysOld.f 1 y d n = some r := by
  unfold spec_DayOfDaysOld.f spec_biDate.f spec_l1In.f spec_DayOfDaysOld.j0 spec_biDays.f spec_biBack.f spec_l1In.f
  simp only [Option.bind_some]
  repeat' (first | exact ⟨_, rfl⟩ | split | simp only [Option.bind_some])

theorem FnExactDayOfDaysOld : laws_FnExactDayOfDaysOld.Pure := by
  intro y d n _ _ _
  refine ⟨1, ?_⟩
  obtain ⟨⟨r1, r2, r3⟩, h⟩ := dodo_some y d n
  have h' : impl_DayOfDaysOld.f 1 y d n = some (r1, r2, r3) := h
  unfold laws_FnExactDayOfDaysOld.f
  simp [laws_toDate.f, h, h', laws_eqDate.f]

end Go.Proofs.Ythganiphabaegaa.Pure
