-- WRITTEN by xprint.py, a program of this session that drives the kit's printer: out of the translation. Lean checks it.
import Derived.Test.YtglbhpimlfjglaaE0
import Derived.Test.YtglbhpimlfjglaaE6
import Derived.Test.YtglbhpimlfjglaaE7
import Derived.Test.YtglbhpimlfjglaaWMore
namespace Go.Proofs.Ytglbhpimlfjglaa.E
open Go.RowKit Go.Proofs.YtglbhpimlfjglaaW.PrintWords Go.Proofs.YtglbhpimlfjglaaW.PrintLast Go.Proofs.YtglbhpimlfjglaaW.PrintMore
attribute [local go_sem] max2_int min2_int max_two min_two max_three min_three max_four min_four   -- for this text's walks alone
set_option linter.unusedVariables false
set_option linter.unusedSimpArgs false

/-! ### impl_CountSets: function 13 -/
def impl_CountSets.f (a0 : Int) (a1 : Int) : Option (Int × Bool) := (impl_SetsOfProduct.f a0 a1).bind fun bt117 => (some ((bt117.1.length : Int), bt117.2))
set_option maxHeartbeats 8000000 in
set_option maxRecDepth 100000 in
theorem impl_CountSets.calls (a0 : Int) (a1 : Int) (r1 : Int) (r2 : Bool) (w : World) (h : impl_CountSets.f a0 a1 = some (r1, r2)) :
    Calls Try.prog 13 #[.int .i64 a0, .int .i64 a1] w fun e w' => e = .returned (.tuple #[.int .i64 r1, .bool r2]) ∧ Below w.heap.size w w' := by
  have HB := Aside0.mk (Below.refl w.heap.size w)
  have H : ((impl_SetsOfProduct.f a0 a1).bind fun bt117 => (some ((bt117.1.length : Int), bt117.2))) = some (r1, r2) := h
  clear h
  replace H := Option.bind_eq_some_iff.mp H
  obtain ⟨⟨t117, t118⟩, A30, H⟩ := H
  replace H : (some ((t117.length : Int), t118)) = some (r1, r2) := H
  have A3 := Aside0.mk A30
  clear A30
  simp only [Option.some.injEq, Prod.mk.injEq] at H
  obtain ⟨rfl, rfl⟩ := H
  go_enter Try.func13, Try.ntmps13
  go_wp2_with (first | ((with_reducible refine gate_callee (f := 17) rfl ?_); refine goesL_ (some 11) rfl rfl Try.func17 (by kernel_rfl) rfl #[.int .i64 a0, .int .i64 a1] rfl (by (try simp only [List.map_toArray, List.map_cons, List.map_nil]); first | done | rfl | (simp only [List.length_drop, List.length_take]; rfl)) ?_; (with_reducible refine (impl_SetsOfProduct.calls a0 a1 t117 t118 _ A3.out).mono ?_); rintro e w4 ⟨v119, rfl, ho0, hb⟩; refine ⟨_, rfl, ?_⟩; have n0_ := Aside0.mk (Kd.S_lower ho0 (below_size (by repeat (first | (with_reducible first | exact HB.out | apply below_alloc | apply pw_below_drewN | apply below_drew1) | exact HB.out)))); have n1_ := Aside0.mk (below_step (by repeat (first | (with_reducible first | exact HB.out | apply below_alloc | apply pw_below_drewN | apply below_drew1) | exact HB.out)) hb); clear HB; have HO120 := n0_; have HB := n1_; clear n0_ n1_; (try clear hb); (try clear hb2); (try clear hk); (try clear hi); (try clear ho0); obtain ⟨Ao5, co5, eo5⟩ := Kd.S_slice HO120.out; subst eo5))
  go_ret2
  exact ⟨by first | rfl | (simp [errW_none, errW_some] <;> rfl) | (simp [*, errW_none, errW_some] <;> rfl), by repeat (first | (with_reducible first | exact HB.out | apply below_alloc | apply pw_below_drewN | apply below_drew1) | exact HB.out)⟩

/-! ### laws_FnExactCountSets: function 4 -/
def laws_FnExactCountSets.f (a0 : Int) (a1 : Int) : Option (Bool) := (spec_CountSets.f a0 a1).bind fun bt121 => ((impl_CountSets.f a0 a1).bind fun bt123 => (if bt123.1 = bt121.1 then (if (bt123.2 != bt121.2) = true then (some false) else (some true)) else (some false)))
set_option maxHeartbeats 8000000 in
set_option maxRecDepth 100000 in
theorem laws_FnExactCountSets.calls (a0 : Int) (a1 : Int) (w : World) (h : laws_FnExactCountSets.f a0 a1 = some true) :
    Calls Try.prog 4 #[.int .i64 a0, .int .i64 a1] w fun e w' => e = .returned (.bool true) ∧ Below w.heap.size w w' := by
  have HB := Aside0.mk (Below.refl w.heap.size w)
  have H : ((spec_CountSets.f a0 a1).bind fun bt121 => ((impl_CountSets.f a0 a1).bind fun bt123 => (if bt123.1 = bt121.1 then (if (bt123.2 != bt121.2) = true then (some false) else (some true)) else (some false)))) = some true := h
  clear h
  replace H := Option.bind_eq_some_iff.mp H
  obtain ⟨⟨t121, t122⟩, A30, H⟩ := H
  replace H : ((impl_CountSets.f a0 a1).bind fun bt123 => (if bt123.1 = t121 then (if (bt123.2 != t122) = true then (some false) else (some true)) else (some false))) = some true := H
  have A3 := Aside0.mk A30
  clear A30
  replace H := Option.bind_eq_some_iff.mp H
  obtain ⟨⟨t123, t124⟩, A40, H⟩ := H
  replace H : (if t123 = t121 then (if (t124 != t122) = true then (some false) else (some true)) else (some false)) = some true := H
  have A4 := Aside0.mk A40
  clear A40
  by_cases c5 : t123 = t121
  · rw [if_pos c5] at H
    have c5b0 : (t123 == t121) = true := beq_iff_eq.mpr c5
    have c5b1 : (t123 != t121) = false := bne_eq_false_iff_eq.mpr c5
    clear c5
    by_cases c6 : (t124 != t122) = true
    · rw [if_pos c6] at H
      have c6b0 : (t124 != t122) = true := c6
      (try (have c6b1 : decide (t124 = t122) = false := by simpa using c6))
      (try (have c6b2 : (t124 == t122) = false := by simpa using c6))
      (try (have c6b3 : ¬ (t124 = t122) := by simpa using c6))
      clear c6
      exact absurd H (by simp)
    · rw [if_neg c6] at H
      have c6b0 : (t124 != t122) = false := by simpa using c6
      (try (have c6b1 : decide (t124 = t122) = true := by simpa using c6))
      (try (have c6b2 : (t124 == t122) = true := by simpa using c6))
      clear c6
      clear H
      go_enter Try.func4, Try.ntmps4
      go_wp2_with (first | ((with_reducible refine gate_callee (f := 12) rfl ?_); refine goesL_ (some 12) rfl rfl Try.func12 (by kernel_rfl) rfl #[.int .i64 a0, .int .i64 a1] rfl (by (try simp only [List.map_toArray, List.map_cons, List.map_nil]); first | done | rfl | (simp only [List.length_drop, List.length_take]; rfl)) ?_; (with_reducible refine (spec_CountSets.calls a0 a1 t121 t122 _ A3.out).mono ?_); rintro e w7 ⟨rfl, hb⟩; refine ⟨_, rfl, ?_⟩; have n0_ := Aside0.mk (below_step (by repeat (first | (with_reducible first | exact HB.out | apply below_alloc | apply pw_below_drewN | apply below_drew1) | exact HB.out)) hb); clear HB; have HB := n0_; clear n0_; (try clear hb); (try clear hb2); (try clear hk); (try clear hi)) | ((with_reducible refine gate_callee (f := 13) rfl ?_); refine goesL_ (some 18) rfl rfl Try.func13 (by kernel_rfl) rfl #[.int .i64 a0, .int .i64 a1] rfl (by (try simp only [List.map_toArray, List.map_cons, List.map_nil]); first | done | rfl | (simp only [List.length_drop, List.length_take]; rfl)) ?_; (with_reducible refine (impl_CountSets.calls a0 a1 t123 t124 _ A4.out).mono ?_); rintro e w8 ⟨rfl, hb⟩; refine ⟨_, rfl, ?_⟩; have n0_ := Aside0.mk (below_step (by repeat (first | (with_reducible first | exact HB.out | apply below_alloc | apply pw_below_drewN | apply below_drew1) | exact HB.out)) hb); clear HB; have HB := n0_; clear n0_; (try clear hb); (try clear hb2); (try clear hk); (try clear hi)))
      go_ret
      exact ⟨by first | rfl | (simp [errW_none, errW_some] <;> rfl) | (simp [*, errW_none, errW_some] <;> rfl), by repeat (first | (with_reducible first | exact HB.out | apply below_alloc | apply pw_below_drewN | apply below_drew1) | exact HB.out)⟩
  · rw [if_neg c5] at H
    have c5b0 : (t123 == t121) = false := beq_eq_false_iff_ne.mpr c5
    have c5b1 : (t123 != t121) = true := bne_iff_ne.mpr c5
    exact absurd H (by simp)

/-- THE ONE PURE STATEMENT of laws_FnExactCountSets: yours. -/
def laws_FnExactCountSets.Pure : Prop := ∀ (a0 : Int) (a1 : Int), (Lit.int .i64 a0).wf = true → (Lit.int .i64 a1).wf = true → laws_FnExactCountSets.f a0 a1 = some true
theorem laws_FnExactCountSets.walk (P : laws_FnExactCountSets.Pure) (a0 : Int) (a1 : Int) (w : World) (w0 : (Lit.int .i64 a0).wf = true) (w1 : (Lit.int .i64 a1).wf = true) :
    Calls Try.prog 4 #[.int .i64 a0, .int .i64 a1] w fun e w' => e = .returned (.bool true) ∧ Below w.heap.size w w' := by
  have h := P a0 a1 w0 w1
  refine (laws_FnExactCountSets.calls a0 a1 w h).mono ?_
  rintro e w' ⟨rfl, hd⟩
  exact ⟨rfl, hd⟩

end Go.Proofs.Ytglbhpimlfjglaa.E
