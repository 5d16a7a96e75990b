-- WRITTEN by xprint.py, a program of this session that drives the kit's printer: out of the translation. Lean checks it.
import Derived.Test.YtlbnhjeblknepaaGreatE0
import Derived.Test.YtlbnhjeblknepaaGreatEb
import Derived.Test.YtlbnhjeblknepaaGreatE24
import Derived.Test.YtlbnhjeblknepaaGreatE25
import Derived.Test.YtlbnhjeblknepaaGreatE41
import Derived.Test.YtlbnhjeblknepaaGreatWm
namespace Go.Proofs.YtlbnhjeblknepaaGreat.E
open Go.RowKit Go.Proofs.YtlbnhjeblknepaaGreatW.PrintWords Go.Proofs.YtlbnhjeblknepaaGreatW.PrintLast
set_option linter.unusedVariables false
set_option linter.unusedSimpArgs false

-- OURS, BY HAND
/-! ### spec_DoesTell: function 32 -/
-- func spec.DoesTell
-- ext rounds=0 making=1
-- needs spec.siBoth
-- needs spec.siSum
-- needs spec.siChildren
-- needs spec.siSets
def spec_DoesTell.f (c p s : Int) : Option (Bool × Bool) := (spec_siChildren.f c p).bind fun b => if b = true then (spec_siSum.f c s).bind fun b2 => if b2 = true then (spec_siSets.f c p).bind fun l => if okSets l = true then some (decide ((l.filter (hasSum s)).length = 1), decide (0 < (l.filter (hasSum s)).length)) else none else some (false, false) else some (false, false)
set_option maxHeartbeats 1600000 in
set_option maxRecDepth 100000 in
theorem spec_DoesTell.calls (c p s : Int) (r1 r2 : Bool) (W : World) (h : spec_DoesTell.f c p s = some (r1, r2)) :
    Calls Tryz.prog 32 #[.int .i64 c, .int .i64 p, .int .i64 s] W fun e w' => e = .returned (.tuple #[.bool r1, .bool r2]) ∧ Below W.heap.size W w' := by
  unfold spec_DoesTell.f at h
  obtain ⟨b, hb, h⟩ := Option.bind_eq_some_iff.1 h
  have HA := Aside0.mk (fun w => spec_siChildren.calls c p b w hb)
  cases b with
  | false =>
    simp only [Bool.false_eq_true, if_false, Option.some.injEq, Prod.mk.injEq] at h
    obtain ⟨rfl, rfl⟩ := h
    clear hb
    go_enter Tryz.func32, Tryz.ntmps32
    go_wp2_with (go_at_call 45; (with_reducible refine (HA.out _).mono ?_); rintro e w' ⟨rfl, ⟨nd, rfl⟩⟩)
    go_ret2
    exact ⟨rfl, pw_below_drewN (Below.refl _ _) nd⟩
  | true =>
    simp only [if_true] at h
    obtain ⟨b2, hb2, h⟩ := Option.bind_eq_some_iff.1 h
    have HB := Aside0.mk (fun w => spec_siSum.calls c s b2 w hb2)
    cases b2 with
    | false =>
      simp only [Bool.false_eq_true, if_false, Option.some.injEq, Prod.mk.injEq] at h
      obtain ⟨rfl, rfl⟩ := h
      clear hb hb2
      go_enter Tryz.func32, Tryz.ntmps32
      go_wp2_with (first | (go_at_call 45; (with_reducible refine (HA.out _).mono ?_); rintro e w' ⟨rfl, ⟨nd, rfl⟩⟩) | (go_at_call 69; (with_reducible refine (HB.out _).mono ?_); rintro e w' ⟨rfl, ⟨nd2, rfl⟩⟩))
      go_ret2
      exact ⟨rfl, pw_below_drewN (Below.refl _ _) _⟩
    | true =>
      simp only [if_true] at h
      obtain ⟨l, hl, h⟩ := Option.bind_eq_some_iff.1 h
      by_cases hk : okSets l = true
      · rw [if_pos hk] at h
        simp only [Option.some.injEq, Prod.mk.injEq] at h
        obtain ⟨e1, e2⟩ := h
        have HL := Aside0.mk (fun w => spec_siSets.calls c p l w hl)
        have HS := Aside0.mk (fun A1 c1 w (h : Kd.C (Kd.slice 3 (Kd.int .i64)) w A1 l.length l) (h1 : l.length ≤ c1) => siBoth_calls s A1 c1 l w h h1 (okSets_ages hk) (okSets_len hk))
        obtain ⟨n, hn⟩ : ∃ n, n = (l.filter (hasSum s)).length := ⟨_, rfl⟩
        rw [← hn] at e1 e2 HS
        have p1 : ((n : Int) == 1) = r1 := by rw [← e1]; by_cases hx : n = 1 <;> simp [hx] <;> omega
        have p2 : decide (0 < n) = r2 := e2
        have E1 := Aside0.mk p1
        have E2 := Aside0.mk p2
        clear hb hb2 hl hk e1 e2 hn p1 p2
        go_enter Tryz.func32, Tryz.ntmps32
        go_wp2_with (first | (go_at_call 45; (with_reducible refine (HA.out _).mono ?_); rintro e w' ⟨rfl, ⟨nd, rfl⟩⟩) | (go_at_call 69; (with_reducible refine (HB.out _).mono ?_); rintro e w' ⟨rfl, ⟨nd2, rfl⟩⟩) | (go_at_call 47; (with_reducible refine (HL.out _).mono ?_); rintro e w1 ⟨v1, rfl, hS, hb⟩; obtain ⟨A1, c1, rfl, hc1, hC1⟩ := Kd.S_reads hS; have HC1 := Aside0.mk hC1; have HB1 := Aside0.mk hb; clear hS hb hC1) | (go_at_call 70; (with_reducible refine (HS.out A1 c1 _ HC1.out hc1).mono ?_); rintro e w3 ⟨A3, c3, rfl, hc3, hC3, hB3⟩; have HC3 := Aside0.mk hC3; have HB3 := Aside0.mk hB3; clear hC3 hB3))
        go_ret2
        have h1 : Below W.heap.size W w1 := below_then (pw_below_drewN (Below.refl _ _) _) (by simp) HB1.out
        refine ⟨?_, below_then h1 h1.size HB3.out⟩
        rw [← E1.out, ← E2.out]
        rfl
      · rw [if_neg hk] at h
        cases h

end Go.Proofs.YtlbnhjeblknepaaGreat.E
