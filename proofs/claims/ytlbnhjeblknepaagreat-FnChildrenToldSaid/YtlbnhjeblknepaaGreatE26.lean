-- WRITTEN by xprint.py, a program of this session that drives the kit's printer: out of the translation. Lean checks it.
import Derived.Test.YtlbnhjeblknepaaGreatE0
import Derived.Test.YtlbnhjeblknepaaGreatEb
import Derived.Test.YtlbnhjeblknepaaGreatE24
import Derived.Test.YtlbnhjeblknepaaGreatE25
import Derived.Test.YtlbnhjeblknepaaGreatWm
namespace Go.Proofs.YtlbnhjeblknepaaGreat.E
open Go.RowKit Go.Proofs.YtlbnhjeblknepaaGreatW.PrintWords Go.Proofs.YtlbnhjeblknepaaGreatW.PrintLast
set_option linter.unusedVariables false
set_option linter.unusedSimpArgs false

-- OURS, BY HAND
/-! ### spec_ToldByOldest: function 7 -/
-- func spec.ToldByOldest
-- ext raw=1
-- needs spec.siTold
-- needs spec.siSets
-- needs spec.siChildren
-- import Derived.WalkKit
-- import Derived.Deep.RegionWith
-- import Derived.Deep.RegionLaw
-- import Derived.IntWalk
-- import Derived.WalkSpells
-- import Derived.Lib.SliceRun
def spec_ToldByOldest.f (c p : Int) : Option (List (List Int) × Bool) := (spec_siChildren.f c p).bind fun b => if b = true then (spec_siSets.f c p).bind fun l => if okTold l = true then some (toldS true l, true) else none else some ([], false)
set_option maxHeartbeats 1600000 in
theorem spec_ToldByOldest.calls (c p : Int) (r1 : List (List Int)) (r2 : Bool) (W : World) (h : spec_ToldByOldest.f c p = some (r1, r2)) :
    Calls Tryz.prog 7 #[.int .i64 c, .int .i64 p] W fun e w' => ∃ A cc, e = .returned (.tuple #[.slice A r1.length cc, .bool r2]) ∧ r1.length ≤ cc ∧ Kd.C (Kd.slice 3 (Kd.int .i64)) w' A r1.length r1 ∧ Below W.heap.size W w' := by
  unfold spec_ToldByOldest.f at h
  obtain ⟨b, hb, h⟩ := Option.bind_eq_some_iff.1 h
  have HA := Aside0.mk (fun w => spec_siChildren.calls c p b w hb)
  cases b with
  | false =>
    simp only [Bool.false_eq_true, if_false, Option.some.injEq, Prod.mk.injEq] at h
    obtain ⟨rfl, rfl⟩ := h
    clear hb
    go_enter Tryz.func7, Tryz.ntmps7
    go_wp2_with (go_at_call 45; (with_reducible refine (HA.out _).mono ?_); rintro e w' ⟨rfl, ⟨nd, rfl⟩⟩)
    go_ret2
    exact ⟨none, 0, rfl, Nat.le_refl _, Kd.C_nil _ _, pw_below_drewN (Below.refl _ _) nd⟩
  | true =>
    simp only [if_true] at h
    obtain ⟨l, hl, h⟩ := Option.bind_eq_some_iff.1 h
    by_cases hk : okTold l = true
    · rw [if_pos hk] at h
      simp only [Option.some.injEq, Prod.mk.injEq] at h
      obtain ⟨rfl, rfl⟩ := h
      unfold okTold at hk
      obtain ⟨hk1, hk2⟩ := Bool.and_eq_true_iff.1 hk
      have HL := Aside0.mk (fun w => spec_siSets.calls c p l w hl)
      have HS := Aside0.mk (fun A1 c1 w (h : Kd.C (Kd.slice 3 (Kd.int .i64)) w A1 l.length l) (h1 : l.length ≤ c1) => siTold_true A1 c1 l w h h1 (okSets_ages hk1) (fun x hx => of_decide_eq_true (List.all_eq_true.1 hk2 x hx)) (okSets_len hk1))
      clear hb hl hk hk1 hk2
      go_enter Tryz.func7, Tryz.ntmps7
      go_wp2_with (first | (go_at_call 45; (with_reducible refine (HA.out _).mono ?_); rintro e w' ⟨rfl, ⟨nd, rfl⟩⟩) | (go_at_call 47; (with_reducible refine (HL.out _).mono ?_); rintro e w1 ⟨v1, rfl, hS, hb⟩; obtain ⟨A1, c1, rfl, hc1, hC1⟩ := Kd.S_reads hS; have HC1 := Aside0.mk hC1; have HQ1 := Aside0.mk hc1; have HB1 := Aside0.mk hb; clear hS hb hc1 hC1) | (go_at_call 46; (with_reducible refine (HS.out _ _ _ HC1.out HQ1.out).mono ?_); rintro e w3 ⟨A3, c3, rfl, hc3, hC3, hB3⟩; have HC3 := Aside0.mk hC3; have HB3 := Aside0.mk hB3; clear hC3 hB3))
      go_ret2
      have h1 : Below W.heap.size W w1 := below_then (pw_below_drewN (Below.refl _ _) _) (by simp) HB1.out
      exact ⟨A3, c3, rfl, hc3, HC3.out, below_then h1 h1.size HB3.out⟩
    · rw [if_neg hk] at h
      cases h

end Go.Proofs.YtlbnhjeblknepaaGreat.E
