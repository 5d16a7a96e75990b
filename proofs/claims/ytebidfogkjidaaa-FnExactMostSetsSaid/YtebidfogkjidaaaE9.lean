-- WRITTEN by xprint.py, a program of this session that drives the kit's printer: out of the translation. Lean checks it.
import Derived.Test.YtebidfogkjidaaaE0
import Derived.Test.YtebidfogkjidaaaE6
import Derived.Test.YtebidfogkjidaaaE8
import Derived.Test.YtebidfogkjidaaaWMore
namespace Go.Proofs.Ytebidfogkjidaaa.E
open Go.RowKit Go.Proofs.YtebidfogkjidaaaW.PrintWords Go.Proofs.YtebidfogkjidaaaW.PrintLast Go.Proofs.YtebidfogkjidaaaW.PrintMore
attribute [local go_sem] max2_int min2_int max_two min_two max_three min_three max_four min_four   -- for this text's walks alone
set_option linter.unusedVariables false
set_option linter.unusedSimpArgs false

/-! ### laws_FnExactMostSets: function 3 -/
def laws_FnExactMostSets.f (k : Nat) (a0 : Int) (a1 : Int) (a2 : Int) : Option (Bool) := (spec_MostSets.f k a0 a1 a2).bind fun bt119 => ((impl_MostSets.f a0 a1 a2).bind fun bt122 => (if bt122.1 = bt119.1 then (if bt122.2.1 = bt119.2.1 then (if (bt122.2.2 != bt119.2.2) = true then (some false) else (some true)) else (some false)) else (some false)))
theorem laws_FnExactMostSets.mono : ∀ a0 a1 a2 k, LeO (laws_FnExactMostSets.f k a0 a1 a2) (laws_FnExactMostSets.f (k + 1) a0 a1 a2) := by
  intro a0 a1 a2 k
  unfold laws_FnExactMostSets.f
  repeat' first
      | (with_reducible exact spec_MostSets.mono _ _ _ _)
      | (with_reducible exact LeO.refl _)
      | (with_reducible exact LeO.none _)
      | (with_reducible refine LeO.ite ?_ ?_)
      | (with_reducible refine LeO.bind ?_ (fun _ => ?_))
      | exact spec_MostSets.mono _ _ _ _
      | exact LeO.none _
      | refine LeO.ite ?_ ?_
      | refine LeO.bind ?_ (fun _ => ?_)
set_option maxHeartbeats 8000000 in
set_option maxRecDepth 100000 in
theorem laws_FnExactMostSets.calls (k : Nat) (a0 : Int) (a1 : Int) (a2 : Int) (w : World) (h : laws_FnExactMostSets.f k a0 a1 a2 = some true) :
    Calls Try.prog 3 #[.int .i64 a0, .int .i64 a1, .int .i64 a2] w fun e w' => e = .returned (.bool true) ∧ Below w.heap.size w w' := by
  have HB := Aside0.mk (Below.refl w.heap.size w)
  have H : ((spec_MostSets.f k a0 a1 a2).bind fun bt119 => ((impl_MostSets.f a0 a1 a2).bind fun bt122 => (if bt122.1 = bt119.1 then (if bt122.2.1 = bt119.2.1 then (if (bt122.2.2 != bt119.2.2) = true then (some false) else (some true)) else (some false)) else (some false)))) = some true := h
  clear h
  replace H := Option.bind_eq_some_iff.mp H
  obtain ⟨⟨t119, t120, t121⟩, A40, H⟩ := H
  replace H : ((impl_MostSets.f a0 a1 a2).bind fun bt122 => (if bt122.1 = t119 then (if bt122.2.1 = t120 then (if (bt122.2.2 != t121) = true then (some false) else (some true)) else (some false)) else (some false))) = some true := H
  have A4 := Aside0.mk A40
  clear A40
  replace H := Option.bind_eq_some_iff.mp H
  obtain ⟨⟨t122, t123, t124⟩, A50, H⟩ := H
  replace H : (if t122 = t119 then (if t123 = t120 then (if (t124 != t121) = true then (some false) else (some true)) else (some false)) else (some false)) = some true := H
  have A5 := Aside0.mk A50
  clear A50
  by_cases c6 : t122 = t119
  · rw [if_pos c6] at H
    have c6b0 : (t122 == t119) = true := beq_iff_eq.mpr c6
    have c6b1 : (t122 != t119) = false := bne_eq_false_iff_eq.mpr c6
    clear c6
    by_cases c7 : t123 = t120
    · rw [if_pos c7] at H
      have c7b0 : (t123 == t120) = true := beq_iff_eq.mpr c7
      have c7b1 : (t123 != t120) = false := bne_eq_false_iff_eq.mpr c7
      clear c7
      by_cases c8 : (t124 != t121) = true
      · rw [if_pos c8] at H
        have c8b0 : (t124 != t121) = true := c8
        (try (have c8b1 : decide (t124 = t121) = false := by simpa using c8))
        (try (have c8b2 : (t124 == t121) = false := by simpa using c8))
        (try (have c8b3 : ¬ (t124 = t121) := by simpa using c8))
        clear c8
        exact absurd H (by simp)
      · rw [if_neg c8] at H
        have c8b0 : (t124 != t121) = false := by simpa using c8
        (try (have c8b1 : decide (t124 = t121) = true := by simpa using c8))
        (try (have c8b2 : (t124 == t121) = true := by simpa using c8))
        clear c8
        clear H
        go_enter Try.func3, Try.ntmps3
        go_wp2_with (first | ((with_reducible refine gate_callee (f := 7) rfl ?_); refine goesL_ (some 17) rfl rfl Try.func7 (by kernel_rfl) rfl #[.int .i64 a0, .int .i64 a1, .int .i64 a2] rfl (by (try simp only [List.map_toArray, List.map_cons, List.map_nil]); first | done | rfl | (simp only [List.length_drop, List.length_take]; rfl)) ?_; (with_reducible refine (spec_MostSets.calls k a0 a1 a2 t119 t120 t121 _ A4.out).mono ?_); rintro e w9 ⟨rfl, hb⟩; refine ⟨_, rfl, ?_⟩; have n0_ := Aside0.mk (below_step (by repeat (first | (with_reducible first | exact HB.out | apply below_alloc | apply pw_below_drewN | apply below_drew1) | exact HB.out)) hb); clear HB; have HB := n0_; clear n0_; (try clear hb); (try clear hb2); (try clear hk); (try clear hi)) | ((with_reducible refine gate_callee (f := 8) rfl ?_); refine goesL_ (some 25) rfl rfl Try.func8 (by kernel_rfl) rfl #[.int .i64 a0, .int .i64 a1, .int .i64 a2] rfl (by (try simp only [List.map_toArray, List.map_cons, List.map_nil]); first | done | rfl | (simp only [List.length_drop, List.length_take]; rfl)) ?_; (with_reducible refine (impl_MostSets.calls a0 a1 a2 t122 t123 t124 _ A5.out).mono ?_); rintro e w10 ⟨rfl, hb⟩; refine ⟨_, rfl, ?_⟩; have n0_ := Aside0.mk (below_step (by repeat (first | (with_reducible first | exact HB.out | apply below_alloc | apply pw_below_drewN | apply below_drew1) | exact HB.out)) hb); clear HB; have HB := n0_; clear n0_; (try clear hb); (try clear hb2); (try clear hk); (try clear hi)))
        go_ret
        exact ⟨by first | rfl | (simp [errW_none, errW_some] <;> rfl) | (simp [*, errW_none, errW_some] <;> rfl), by repeat (first | (with_reducible first | exact HB.out | apply below_alloc | apply pw_below_drewN | apply below_drew1) | exact HB.out)⟩
    · rw [if_neg c7] at H
      have c7b0 : (t123 == t120) = false := beq_eq_false_iff_ne.mpr c7
      have c7b1 : (t123 != t120) = true := bne_iff_ne.mpr c7
      exact absurd H (by simp)
  · rw [if_neg c6] at H
    have c6b0 : (t122 == t119) = false := beq_eq_false_iff_ne.mpr c6
    have c6b1 : (t122 != t119) = true := bne_iff_ne.mpr c6
    exact absurd H (by simp)

/-- THE ONE PURE STATEMENT of laws_FnExactMostSets: yours. -/
def laws_FnExactMostSets.Pure : Prop := ∀ (a0 : Int) (a1 : Int) (a2 : Int), (Lit.int .i64 a0).wf = true → (Lit.int .i64 a1).wf = true → (Lit.int .i64 a2).wf = true → ∃ k, laws_FnExactMostSets.f k a0 a1 a2 = some true
theorem laws_FnExactMostSets.walk (P : laws_FnExactMostSets.Pure) (a0 : Int) (a1 : Int) (a2 : Int) (w : World) (w0 : (Lit.int .i64 a0).wf = true) (w1 : (Lit.int .i64 a1).wf = true) (w2 : (Lit.int .i64 a2).wf = true) :
    Calls Try.prog 3 #[.int .i64 a0, .int .i64 a1, .int .i64 a2] w fun e w' => e = .returned (.bool true) ∧ Below w.heap.size w w' := by
  obtain ⟨k, h⟩ := P a0 a1 a2 w0 w1 w2
  refine (laws_FnExactMostSets.calls k a0 a1 a2 w h).mono ?_
  rintro e w' ⟨rfl, hd⟩
  exact ⟨rfl, hd⟩

end Go.Proofs.Ytebidfogkjidaaa.E
