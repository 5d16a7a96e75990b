/- The program's TwiceAsOld returns what the reference's returns, for all arguments. No condition. -/
import Derived.Test.YthganiphabaegaaX1
import Derived.Test.YthganiphabaegaaX3
import Derived.Test.YthganiphabaegaaX4
import Derived.Test.YthganiphabaegaaX5
namespace Go.Proofs.Ythganiphabaegaa.Pure
open Go.RowKit Go.Proofs.Ythganiphabaegaa.X Go.Proofs.YthganiphabaegaaW.PrintWords Go.Proofs.YthganiphabaegaaW.PrintLast

theorem twice_date (a b : Int) : ∃ r, spec_biDate.f a b = some r := by
  unfold spec_biDate.f spec_l1In.f
  repeat' (first | exact ⟨_, rfl⟩ | split | simp only [Option.bind_some])
theorem twice_back (a : Int) : ∃ r, spec_biBack.f a = some r := by
  unfold spec_biBack.f spec_l1In.f
  repeat' (first | exact ⟨_, rfl⟩ | split | simp only [Option.bind_some])
theorem twice_join (x : Bool) (a b c d : Int) : ∃ r, spec_TwiceAsOld.j0 3 x a b c d = some r := by
  obtain ⟨⟨r1, r2, r3⟩, h⟩ := twice_back (wrap64 ((wrap64 (2 * (wrap64 ((wrap64 ((wrap64 (c * 365)) + d)) - 1)))) - (wrap64 ((wrap64 ((wrap64 (a * 365)) + b)) - 1))))
  cases x with
  | true => exact ⟨_, rfl⟩
  | false =>
    refine ⟨(r1, r2, r3), ?_⟩
    simp only [spec_TwiceAsOld.j0, spec_biDays.f, Option.bind_some, Bool.false_eq_true, if_false]
    rw [h]; rfl
theorem twice_some (a b c d : Int) : ∃ r, spec_TwiceAsOld.f 3 a b c d = some r := by
  obtain ⟨x, hx⟩ := twice_date a b
  obtain ⟨y, hy⟩ := twice_date c d
  unfold spec_TwiceAsOld.f spec_biDays.f
  rw [hx, hy]
  simp only [Option.bind_some]
  split
  · split <;> exact twice_join _ _ _ _ _
  · exact twice_join _ _ _ _ _

theorem FnExactTwiceAsOld : laws_FnExactTwiceAsOld.Pure := by
  intro a b c d _ _ _ _
  refine ⟨3, ?_⟩
  obtain ⟨⟨r1, r2, r3⟩, h⟩ := twice_some a b c d
  have h' : impl_TwiceAsOld.f 3 a b c d = some (r1, r2, r3) := h
  unfold laws_FnExactTwiceAsOld.f
  simp [laws_toDate.f, h, h', laws_eqDate.f]

end Go.Proofs.Ythganiphabaegaa.Pure
