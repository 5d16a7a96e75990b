-- WRITTEN by xprint.py, a program of this session that drives the kit's printer: out of the translation. Lean checks it.
import Derived.Test.YtofkafbcbghkeaaE0
import Derived.Test.YtofkafbcbghkeaaE26
import Derived.Test.YtofkafbcbghkeaaE27
import Derived.Test.YtofkafbcbghkeaaWMore
namespace Go.Proofs.Ytofkafbcbghkeaa.E
open Go.RowKit Go.Proofs.YtofkafbcbghkeaaW.PrintWords Go.Proofs.YtofkafbcbghkeaaW.PrintLast Go.Proofs.YtofkafbcbghkeaaW.PrintMore
attribute [local go_sem] max2_int min2_int max_two min_two max_three min_three max_four min_four   -- for this text's walks alone
set_option linter.unusedVariables false
set_option linter.unusedSimpArgs false

/-! ### laws_FnExactLongestTalk: function 12 -/
def laws_FnExactLongestTalk.f (a0 : Int) (a1 : ByteArray) : Option (Bool) := if (a1.size : Int) > 1048576 then (some true) else ((spec_LongestTalk.f a0 a1).bind fun bt139 => ((impl_LongestTalk.f a0 a1).bind fun bt143 => (if bt143.1 = bt139.1 then (if bt143.2.1 = bt139.2.1 then (if bt143.2.2.1 = bt139.2.2.1 then (if (bt143.2.2.2 != bt139.2.2.2) = true then (some false) else (some true)) else (some false)) else (some false)) else (some false))))
set_option maxHeartbeats 8000000 in
set_option maxRecDepth 100000 in
theorem laws_FnExactLongestTalk.calls (a0 : Int) (a1 : ByteArray) (w : World) (h : laws_FnExactLongestTalk.f a0 a1 = some true) :
    Calls Try.prog 12 #[.int .i64 a0, .string a1] w fun e w' => e = .returned (.bool true) ∧ Below w.heap.size w w' := by
  have HB := Aside0.mk (Below.refl w.heap.size w)
  have H : (if (a1.size : Int) > 1048576 then (some true) else ((spec_LongestTalk.f a0 a1).bind fun bt139 => ((impl_LongestTalk.f a0 a1).bind fun bt143 => (if bt143.1 = bt139.1 then (if bt143.2.1 = bt139.2.1 then (if bt143.2.2.1 = bt139.2.2.1 then (if (bt143.2.2.2 != bt139.2.2.2) = true then (some false) else (some true)) else (some false)) else (some false)) else (some false))))) = some true := h
  clear h
  by_cases c3 : (a1.size : Int) > 1048576
  · rw [if_pos c3] at H
    have c3b0 : decide (1048576 < (a1.size : Int)) = true := decide_eq_true c3
    have c3b1 : decide (1048576 < a1.size) = true := decide_eq_true (by omega)
    clear c3
    clear H
    go_enter Try.func12, Try.ntmps12
    go_wp2
    go_ret
    exact ⟨by first | rfl | (simp [errW_none, errW_some] <;> rfl) | (simp [*, errW_none, errW_some] <;> rfl), by repeat (first | (with_reducible first | exact HB.out | apply below_alloc | apply pw_below_drewN | apply below_drew1) | exact HB.out)⟩
  · rw [if_neg c3] at H
    have c3b0 : decide (1048576 < (a1.size : Int)) = false := decide_eq_false c3
    have c3b1 : decide (1048576 < a1.size) = false := decide_eq_false (by omega)
    clear c3
    replace H := Option.bind_eq_some_iff.mp H
    obtain ⟨⟨t139, t140, t141, t142⟩, A40, H⟩ := H
    replace H : ((impl_LongestTalk.f a0 a1).bind fun bt143 => (if bt143.1 = t139 then (if bt143.2.1 = t140 then (if bt143.2.2.1 = t141 then (if (bt143.2.2.2 != t142) = true then (some false) else (some true)) else (some false)) else (some false)) else (some false))) = some true := H
    have A4 := Aside0.mk A40
    clear A40
    replace H := Option.bind_eq_some_iff.mp H
    obtain ⟨⟨t143, t144, t145, t146⟩, A50, H⟩ := H
    replace H : (if t143 = t139 then (if t144 = t140 then (if t145 = t141 then (if (t146 != t142) = true then (some false) else (some true)) else (some false)) else (some false)) else (some false)) = some true := H
    have A5 := Aside0.mk A50
    clear A50
    by_cases c6 : t143 = t139
    · rw [if_pos c6] at H
      have c6b0 : (t143 == t139) = true := beq_iff_eq.mpr c6
      have c6b1 : (t143 != t139) = false := bne_eq_false_iff_eq.mpr c6
      clear c6
      by_cases c7 : t144 = t140
      · rw [if_pos c7] at H
        have c7b0 : (t144 == t140) = true := beq_iff_eq.mpr c7
        have c7b1 : (t144 != t140) = false := bne_eq_false_iff_eq.mpr c7
        clear c7
        by_cases c8 : t145 = t141
        · rw [if_pos c8] at H
          have c8b0 : (t145 == t141) = true := beq_iff_eq.mpr c8
          have c8b1 : (t145 != t141) = false := bne_eq_false_iff_eq.mpr c8
          clear c8
          by_cases c9 : (t146 != t142) = true
          · rw [if_pos c9] at H
            have c9b0 : (t146 != t142) = true := c9
            (try (have c9b1 : decide (t146 = t142) = false := by simpa using c9))
            (try (have c9b2 : (t146 == t142) = false := by simpa using c9))
            (try (have c9b3 : ¬ (t146 = t142) := by simpa using c9))
            clear c9
            exact absurd H (by simp)
          · rw [if_neg c9] at H
            have c9b0 : (t146 != t142) = false := by simpa using c9
            (try (have c9b1 : decide (t146 = t142) = true := by simpa using c9))
            (try (have c9b2 : (t146 == t142) = true := by simpa using c9))
            clear c9
            clear H
            go_enter Try.func12, Try.ntmps12
            go_wp2_with (first | ((with_reducible refine gate_callee (f := 35) rfl ?_); refine goesL_ (some 19) rfl rfl Try.func35 (by kernel_rfl) rfl #[.int .i64 a0, .string a1] rfl (by (try simp only [List.map_toArray, List.map_cons, List.map_nil]); first | done | rfl | (simp only [List.length_drop, List.length_take]; rfl)) ?_; (with_reducible refine (spec_LongestTalk.calls a0 a1 t139 t140 t141 t142 _ A4.out).mono ?_); rintro e w10 ⟨rfl, hb⟩; refine ⟨_, rfl, ?_⟩; have n0_ := Aside0.mk (below_step (by repeat (first | (with_reducible first | exact HB.out | apply below_alloc | apply pw_below_drewN | apply below_drew1) | exact HB.out)) hb); clear HB; have HB := n0_; clear n0_; (try clear hb); (try clear hb2); (try clear hk); (try clear hi)) | ((with_reducible refine gate_callee (f := 36) rfl ?_); refine goesL_ (some 27) rfl rfl Try.func36 (by kernel_rfl) rfl #[.int .i64 a0, .string a1] rfl (by (try simp only [List.map_toArray, List.map_cons, List.map_nil]); first | done | rfl | (simp only [List.length_drop, List.length_take]; rfl)) ?_; (with_reducible refine (impl_LongestTalk.calls a0 a1 t143 t144 t145 t146 _ A5.out).mono ?_); rintro e w11 ⟨rfl, hb⟩; refine ⟨_, rfl, ?_⟩; have n0_ := Aside0.mk (below_step (by repeat (first | (with_reducible first | exact HB.out | apply below_alloc | apply pw_below_drewN | apply below_drew1) | exact HB.out)) hb); clear HB; have HB := n0_; clear n0_; (try clear hb); (try clear hb2); (try clear hk); (try clear hi)))
            go_ret
            exact ⟨by first | rfl | (simp [errW_none, errW_some] <;> rfl) | (simp [*, errW_none, errW_some] <;> rfl), by repeat (first | (with_reducible first | exact HB.out | apply below_alloc | apply pw_below_drewN | apply below_drew1) | exact HB.out)⟩
        · rw [if_neg c8] at H
          have c8b0 : (t145 == t141) = false := beq_eq_false_iff_ne.mpr c8
          have c8b1 : (t145 != t141) = true := bne_iff_ne.mpr c8
          exact absurd H (by simp)
      · rw [if_neg c7] at H
        have c7b0 : (t144 == t140) = false := beq_eq_false_iff_ne.mpr c7
        have c7b1 : (t144 != t140) = true := bne_iff_ne.mpr c7
        exact absurd H (by simp)
    · rw [if_neg c6] at H
      have c6b0 : (t143 == t139) = false := beq_eq_false_iff_ne.mpr c6
      have c6b1 : (t143 != t139) = true := bne_iff_ne.mpr c6
      exact absurd H (by simp)

/-- THE ONE PURE STATEMENT of laws_FnExactLongestTalk: yours. -/
def laws_FnExactLongestTalk.Pure : Prop := ∀ (a0 : Int) (a1 : ByteArray), (Lit.int .i64 a0).wf = true → a1.size ≤ 140737488351232 → laws_FnExactLongestTalk.f a0 a1 = some true
theorem laws_FnExactLongestTalk.walk (P : laws_FnExactLongestTalk.Pure) (a0 : Int) (a1 : ByteArray) (w : World) (w0 : (Lit.int .i64 a0).wf = true) (w1 : a1.size ≤ 140737488351232) :
    Calls Try.prog 12 #[.int .i64 a0, .string a1] w fun e w' => e = .returned (.bool true) ∧ Below w.heap.size w w' := by
  have h := P a0 a1 w0 w1
  refine (laws_FnExactLongestTalk.calls a0 a1 w h).mono ?_
  rintro e w' ⟨rfl, hd⟩
  exact ⟨rfl, hd⟩

end Go.Proofs.Ytofkafbcbghkeaa.E
