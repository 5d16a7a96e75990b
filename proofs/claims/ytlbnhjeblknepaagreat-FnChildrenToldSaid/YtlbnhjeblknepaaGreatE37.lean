-- WRITTEN by xprint.py, a program of this session that drives the kit's printer: out of the translation. Lean checks it.
import Derived.Test.YtlbnhjeblknepaaGreatE0
import Derived.Test.YtlbnhjeblknepaaGreatEa
import Derived.Test.YtlbnhjeblknepaaGreatEb
import Derived.Test.YtlbnhjeblknepaaGreatE36
import Derived.Test.YtlbnhjeblknepaaGreatWm
namespace Go.Proofs.YtlbnhjeblknepaaGreat.E
open Go.RowKit Go.Proofs.YtlbnhjeblknepaaGreatW.PrintWords Go.Proofs.YtlbnhjeblknepaaGreatW.PrintLast
set_option linter.unusedVariables false
set_option linter.unusedSimpArgs false

-- OURS, BY HAND
/-! ### impl_SetsOfBoth: function 25 -/
-- func impl.SetsOfBoth
-- ext rounds=0 making=1
-- needs impl.withSum
-- needs impl.SetsOfProduct
-- needs impl.isSum
theorem impl_isSum.is_ (c : Int) : impl_isSum.f c = some (decide (1 ≤ c ∧ c ≤ 80)) := by unfold impl_isSum.f; rw [between_is]; rfl
def impl_SetsOfBoth.f (c p s : Int) : Option (List (List Int) × Bool) := if 1 ≤ c ∧ c ≤ 4 ∧ 1 ≤ p ∧ p ≤ 160000 ∧ 1 ≤ s ∧ s ≤ 80 then some (((allSets c.toNat []).filter (hasProd p)).filter (hasSum s), true) else some ([], false)
set_option maxHeartbeats 1600000 in
set_option maxRecDepth 100000 in
theorem impl_SetsOfBoth.calls (c p s : Int) (r1 : List (List Int)) (r2 : Bool) (W : World) (h : impl_SetsOfBoth.f c p s = some (r1, r2)) :
    Calls Tryz.prog 25 #[.int .i64 c, .int .i64 p, .int .i64 s] W fun e w' => ∃ v, e = .returned (.tuple #[v, .bool r2]) ∧ Kd.S (Kd.slice 3 (Kd.int .i64)) 31 w' W.heap.size (fun _ => True) v r1 ∧ Below W.heap.size W w' := by
  unfold impl_SetsOfBoth.f at h
  have HB := Aside0.mk (fun w => impl_isSum.calls s _ w (impl_isSum.is_ s))
  by_cases hv : 1 ≤ c ∧ c ≤ 4 ∧ 1 ≤ p ∧ p ≤ 160000
  · have HL := Aside0.mk (fun w => impl_SetsOfProduct.calls c p ((allSets c.toNat []).filter (hasProd p)) true w (by unfold impl_SetsOfProduct.f; rw [if_pos hv]))
    by_cases hp : 1 ≤ s ∧ s ≤ 80
    · rw [decide_eq_true hp] at HB
      rw [if_pos ⟨hv.1, hv.2.1, hv.2.2.1, hv.2.2.2, hp.1, hp.2⟩] at h
      simp only [Option.some.injEq, Prod.mk.injEq] at h
      obtain ⟨rfl, rfl⟩ := h
      obtain ⟨xs, hxs⟩ : ∃ xs, xs = (allSets c.toNat []).filter (hasProd p) := ⟨_, rfl⟩
      rw [← hxs] at HL ⊢
      have hal : ∀ x ∈ xs, Ages x ∧ x.length ≤ 4 := by
        intro x hx
        rw [hxs] at hx
        have := allSets_ages c.toNat [] x (fun y hy => by simp at hy) (List.mem_filter.1 hx).1
        exact ⟨this.1, by have := this.2; simp at this; omega⟩
      have hln : xs.length ≤ 200000 := by
        have h1 := List.length_filter_le (hasProd p) (allSets c.toNat [])
        have h2 := allSets_len c.toNat [] (fun x hx => by simp at hx)
        have h3 : 20 ^ c.toNat ≤ 20 ^ 4 := Nat.pow_le_pow_right (by omega) (by omega)
        rw [hxs]; omega
      have HDL := Aside0.mk (fun v W1 hS hle => withSum_calls s W.heap.size xs v W1 hS hle hal hln)
      clear hxs hp hv hal hln
      go_enter Tryz.func25, Tryz.ntmps25
      go_wp2_with (first | (go_at_call 10; (with_reducible refine (HL.out _).mono ?_); rintro e w1 ⟨v1, rfl, hS, hb⟩; have HS := Aside0.mk hS; have HB1 := Aside0.mk hb; clear hS hb) | (go_at_call 60; (with_reducible refine (HB.out _).mono ?_); rintro e w' ⟨rfl, ⟨nd, rfl⟩⟩) | (go_at_call 61; (with_reducible refine (HDL.out _ _ (Kd.S_drewN HS.out nd) (pw_below_drewN HB1.out nd).size).mono ?_); rintro e w3 ⟨v3, rfl, hS3, hB3⟩; have HS3 := Aside0.mk hS3; have HB3 := Aside0.mk hB3; clear hS3 hB3))
      go_ret2
      refine ⟨_, rfl, HS3.out, ?_⟩
      exact below_then (pw_below_drewN HB1.out nd) (pw_below_drewN HB1.out nd).size HB3.out
    · rw [decide_eq_false hp] at HB
      rw [if_neg (fun hx => hp ⟨hx.2.2.2.2.1, hx.2.2.2.2.2⟩)] at h
      simp only [Option.some.injEq, Prod.mk.injEq] at h
      obtain ⟨rfl, rfl⟩ := h
      clear hp hv
      go_enter Tryz.func25, Tryz.ntmps25
      go_wp2_with (first | (go_at_call 10; (with_reducible refine (HL.out _).mono ?_); rintro e w1 ⟨v1, rfl, hS, hb⟩; have HB1 := Aside0.mk hb; clear hS hb) | (go_at_call 60; (with_reducible refine (HB.out _).mono ?_); rintro e w' ⟨rfl, ⟨nd, rfl⟩⟩))
      go_ret2
      exact ⟨_, rfl, Kd.S_nil _ _ _ _ _, pw_below_drewN HB1.out nd⟩
  · have HL := Aside0.mk (fun w => impl_SetsOfProduct.calls c p [] false w (by unfold impl_SetsOfProduct.f; rw [if_neg hv]))
    rw [if_neg (fun hx => hv ⟨hx.1, hx.2.1, hx.2.2.1, hx.2.2.2.1⟩)] at h
    simp only [Option.some.injEq, Prod.mk.injEq] at h
    obtain ⟨rfl, rfl⟩ := h
    clear hv
    go_enter Tryz.func25, Tryz.ntmps25
    go_wp2_with (first | (go_at_call 10; (with_reducible refine (HL.out _).mono ?_); rintro e w1 ⟨v1, rfl, hS, hb⟩; have HB1 := Aside0.mk hb; clear hS hb))
    go_ret2
    exact ⟨_, rfl, Kd.S_nil _ _ _ _ _, HB1.out⟩

end Go.Proofs.YtlbnhjeblknepaaGreat.E
