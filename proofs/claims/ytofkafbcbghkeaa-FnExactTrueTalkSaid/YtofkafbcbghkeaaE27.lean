-- WRITTEN by xprint.py, a program of this session that drives the kit's printer: out of the translation. Lean checks it.
import Derived.Test.YtofkafbcbghkeaaE0
import Derived.Test.YtofkafbcbghkeaaE25
import Derived.Test.YtofkafbcbghkeaaE26
import Derived.Test.YtofkafbcbghkeaaWMore
namespace Go.Proofs.Ytofkafbcbghkeaa.E
open Go.RowKit Go.Proofs.YtofkafbcbghkeaaW.PrintWords Go.Proofs.YtofkafbcbghkeaaW.PrintLast Go.Proofs.YtofkafbcbghkeaaW.PrintMore
attribute [local go_sem] max2_int min2_int max_two min_two max_three min_three max_four min_four   -- for this text's walks alone
set_option linter.unusedVariables false
set_option linter.unusedSimpArgs false

/-! ### laws_FnExactTrueTalk: function 13 -/
def laws_FnExactTrueTalk.f (a0 : Int) (a1 : Int) (a2 : Int) (a3 : ByteArray) : Option (Bool) := if (a3.size : Int) > 1048576 then (some true) else ((spec_TrueTalk.f a0 a1 a2 a3).bind fun bt139 => ((impl_TrueTalk.f a0 a1 a2 a3).bind fun bt141 => (if bt141.1.toList = bt139.1.toList then (if (bt141.2 != bt139.2) = true then (some false) else (some true)) else (some false))))
set_option maxHeartbeats 8000000 in
set_option maxRecDepth 100000 in
theorem laws_FnExactTrueTalk.calls (a0 : Int) (a1 : Int) (a2 : Int) (a3 : ByteArray) (w : World) (h : laws_FnExactTrueTalk.f a0 a1 a2 a3 = some true) :
    Calls Try.prog 13 #[.int .i64 a0, .int .i64 a1, .int .i64 a2, .string a3] w fun e w' => e = .returned (.bool true) ∧ Below w.heap.size w w' := by
  have HB := Aside0.mk (Below.refl w.heap.size w)
  have H : (if (a3.size : Int) > 1048576 then (some true) else ((spec_TrueTalk.f a0 a1 a2 a3).bind fun bt139 => ((impl_TrueTalk.f a0 a1 a2 a3).bind fun bt141 => (if bt141.1.toList = bt139.1.toList then (if (bt141.2 != bt139.2) = true then (some false) else (some true)) else (some false))))) = some true := h
  clear h
  by_cases c5 : (a3.size : Int) > 1048576
  · rw [if_pos c5] at H
    have c5b0 : decide (1048576 < (a3.size : Int)) = true := decide_eq_true c5
    have c5b1 : decide (1048576 < a3.size) = true := decide_eq_true (by omega)
    clear c5
    clear H
    go_enter Try.func13, Try.ntmps13
    go_wp2
    go_ret
    exact ⟨by first | rfl | (simp [errW_none, errW_some] <;> rfl) | (simp [*, errW_none, errW_some] <;> rfl), by repeat (first | (with_reducible first | exact HB.out | apply below_alloc | apply pw_below_drewN | apply below_drew1) | exact HB.out)⟩
  · rw [if_neg c5] at H
    have c5b0 : decide (1048576 < (a3.size : Int)) = false := decide_eq_false c5
    have c5b1 : decide (1048576 < a3.size) = false := decide_eq_false (by omega)
    clear c5
    replace H := Option.bind_eq_some_iff.mp H
    obtain ⟨⟨t139, t140⟩, A60, H⟩ := H
    replace H : ((impl_TrueTalk.f a0 a1 a2 a3).bind fun bt141 => (if bt141.1.toList = t139.toList then (if (bt141.2 != t140) = true then (some false) else (some true)) else (some false))) = some true := H
    have A6 := Aside0.mk A60
    clear A60
    replace H := Option.bind_eq_some_iff.mp H
    obtain ⟨⟨t141, t142⟩, A70, H⟩ := H
    replace H : (if t141.toList = t139.toList then (if (t142 != t140) = true then (some false) else (some true)) else (some false)) = some true := H
    have A7 := Aside0.mk A70
    clear A70
    by_cases c8 : t141.toList = t139.toList
    · rw [if_pos c8] at H
      have c8b0 : (t141.toList == t139.toList) = true := beq_iff_eq.mpr c8
      have c8b1 : (t141.toList != t139.toList) = false := bne_eq_false_iff_eq.mpr c8
      clear c8
      by_cases c9 : (t142 != t140) = true
      · rw [if_pos c9] at H
        have c9b0 : (t142 != t140) = true := c9
        (try (have c9b1 : decide (t142 = t140) = false := by simpa using c9))
        (try (have c9b2 : (t142 == t140) = false := by simpa using c9))
        (try (have c9b3 : ¬ (t142 = t140) := by simpa using c9))
        clear c9
        exact absurd H (by simp)
      · rw [if_neg c9] at H
        have c9b0 : (t142 != t140) = false := by simpa using c9
        (try (have c9b1 : decide (t142 = t140) = true := by simpa using c9))
        (try (have c9b2 : (t142 == t140) = true := by simpa using c9))
        clear c9
        clear H
        go_enter Try.func13, Try.ntmps13
        go_wp2_with (first | ((with_reducible refine gate_callee (f := 37) rfl ?_); refine goesL_ (some 21) rfl rfl Try.func37 (by kernel_rfl) rfl #[.int .i64 a0, .int .i64 a1, .int .i64 a2, .string a3] rfl (by (try simp only [List.map_toArray, List.map_cons, List.map_nil]); first | done | rfl | (simp only [List.length_drop, List.length_take]; rfl)) ?_; (with_reducible refine (spec_TrueTalk.calls a0 a1 a2 a3 t139 t140 _ A6.out).mono ?_); rintro e w10 ⟨rfl, hb⟩; refine ⟨_, rfl, ?_⟩; have n0_ := Aside0.mk (below_step (by repeat (first | (with_reducible first | exact HB.out | apply below_alloc | apply pw_below_drewN | apply below_drew1) | exact HB.out)) hb); clear HB; have HB := n0_; clear n0_; (try clear hb); (try clear hb2); (try clear hk); (try clear hi)) | ((with_reducible refine gate_callee (f := 38) rfl ?_); refine goesL_ (some 29) rfl rfl Try.func38 (by kernel_rfl) rfl #[.int .i64 a0, .int .i64 a1, .int .i64 a2, .string a3] rfl (by (try simp only [List.map_toArray, List.map_cons, List.map_nil]); first | done | rfl | (simp only [List.length_drop, List.length_take]; rfl)) ?_; (with_reducible refine (impl_TrueTalk.calls a0 a1 a2 a3 t141 t142 _ A7.out).mono ?_); rintro e w11 ⟨rfl, hb⟩; refine ⟨_, rfl, ?_⟩; have n0_ := Aside0.mk (below_step (by repeat (first | (with_reducible first | exact HB.out | apply below_alloc | apply pw_below_drewN | apply below_drew1) | exact HB.out)) hb); clear HB; have HB := n0_; clear n0_; (try clear hb); (try clear hb2); (try clear hk); (try clear hi)))
        go_ret
        exact ⟨by first | rfl | (simp [errW_none, errW_some] <;> rfl) | (simp [*, errW_none, errW_some] <;> rfl), by repeat (first | (with_reducible first | exact HB.out | apply below_alloc | apply pw_below_drewN | apply below_drew1) | exact HB.out)⟩
    · rw [if_neg c8] at H
      have c8b0 : (t141.toList == t139.toList) = false := beq_eq_false_iff_ne.mpr c8
      have c8b1 : (t141.toList != t139.toList) = true := bne_iff_ne.mpr c8
      exact absurd H (by simp)

/-- THE ONE PURE STATEMENT of laws_FnExactTrueTalk: yours. -/
def laws_FnExactTrueTalk.Pure : Prop := ∀ (a0 : Int) (a1 : Int) (a2 : Int) (a3 : ByteArray), (Lit.int .i64 a0).wf = true → (Lit.int .i64 a1).wf = true → (Lit.int .i64 a2).wf = true → a3.size ≤ 140737488351232 → laws_FnExactTrueTalk.f a0 a1 a2 a3 = some true
theorem laws_FnExactTrueTalk.walk (P : laws_FnExactTrueTalk.Pure) (a0 : Int) (a1 : Int) (a2 : Int) (a3 : ByteArray) (w : World) (w0 : (Lit.int .i64 a0).wf = true) (w1 : (Lit.int .i64 a1).wf = true) (w2 : (Lit.int .i64 a2).wf = true) (w3 : a3.size ≤ 140737488351232) :
    Calls Try.prog 13 #[.int .i64 a0, .int .i64 a1, .int .i64 a2, .string a3] w fun e w' => e = .returned (.bool true) ∧ Below w.heap.size w w' := by
  have h := P a0 a1 a2 a3 w0 w1 w2 w3
  refine (laws_FnExactTrueTalk.calls a0 a1 a2 a3 w h).mono ?_
  rintro e w' ⟨rfl, hd⟩
  exact ⟨rfl, hd⟩

end Go.Proofs.Ytofkafbcbghkeaa.E
