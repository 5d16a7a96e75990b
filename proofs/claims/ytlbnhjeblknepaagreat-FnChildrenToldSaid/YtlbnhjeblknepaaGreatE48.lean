-- WRITTEN by xprint.py, a program of this session that drives the kit's printer: out of the translation. Lean checks it.
import Derived.Test.YtlbnhjeblknepaaGreatE0
import Derived.Test.YtlbnhjeblknepaaGreatEb
import Derived.Test.YtlbnhjeblknepaaGreatE25
import Derived.Test.YtlbnhjeblknepaaGreatE47
import Derived.Test.YtlbnhjeblknepaaGreatWm
namespace Go.Proofs.YtlbnhjeblknepaaGreat.E
open Go.RowKit Go.Proofs.YtlbnhjeblknepaaGreatW.PrintWords Go.Proofs.YtlbnhjeblknepaaGreatW.PrintLast Go.Proofs.YtlbnhjeblknepaaGreatW.PrintMore
attribute [local go_sem] max2_int min2_int max_two min_two max_three min_three max_four min_four   -- for this text's walks alone
set_option linter.unusedVariables false
set_option linter.unusedSimpArgs false

-- OURS, BY HAND
/-! ### spec_OneByOldest: function 35 -/
-- func spec.OneByOldest
-- ext rounds=0 making=1
-- needs spec.siTold
-- needs spec.siSets
-- needs spec.siRange
-- import Derived.WalkKit
-- import Derived.Deep.RegionWith
-- import Derived.Deep.RegionLaw
-- import Derived.IntWalk
-- import Derived.WalkSpells
-- import Derived.Lib.SliceRun
/-- The products among the first n for which one set is told, by the reference. -/
def oneS (c fr : Int) : Nat → Option (List Int)
  | 0 => some []
  | n + 1 => (oneS c fr n).bind fun l => (spec_siSets.f c (fr + (n : Int))).bind fun s => if okTold s = true then some (l ++ if (toldS true s).length = 1 then [fr + (n : Int)] else []) else none
theorem oneS_step {c fr : Int} {n : Nat} {r : List Int} (h : oneS c fr (n + 1) = some r) : ∃ l s, oneS c fr n = some l ∧ spec_siSets.f c (fr + (n : Int)) = some s ∧ okTold s = true ∧ r = l ++ if (toldS true s).length = 1 then [fr + (n : Int)] else [] := by
  unfold oneS at h
  obtain ⟨l, h1, h⟩ := Option.bind_eq_some_iff.1 h
  obtain ⟨s, h2, h⟩ := Option.bind_eq_some_iff.1 h
  by_cases h3 : okTold s = true
  · rw [if_pos h3] at h
    exact ⟨l, s, h1, h2, h3, (Option.some.inj h).symm⟩
  · rw [if_neg h3] at h
    cases h
theorem oneS_down {c fr : Int} {i : Nat} : ∀ (d : Nat) {r : List Int}, oneS c fr (i + d) = some r → ∃ l, oneS c fr i = some l
  | 0, r, h => ⟨r, h⟩
  | d + 1, r, h => by
    obtain ⟨l, _, h1, _⟩ := oneS_step (n := i + d) h
    exact oneS_down d h1
theorem oneS_len {c fr : Int} : ∀ {n : Nat} {r : List Int}, oneS c fr n = some r → r.length ≤ n
  | 0, r, h => by
    obtain rfl : [] = r := Option.some.inj h
    exact Nat.le_refl _
  | n + 1, r, h => by
    obtain ⟨l, os, h1, _, _, rfl⟩ := oneS_step h
    have ih := oneS_len h1
    rw [List.length_append]
    split <;> simp <;> omega
def spec_OneByOldest.f (c fr tt : Int) : Option (List Int × Bool) := (spec_siRange.f c fr tt).bind fun b => if b = true then (if 0 ≤ tt - fr + 1 ∧ 0 ≤ fr ∧ fr ≤ 160000 ∧ tt ≤ 160000 then (oneS c fr (tt - fr + 1).toNat).bind fun l => some (l, true) else none) else some ([], false)
set_option maxHeartbeats 8000000 in
theorem spec_OneByOldest.calls (c fr tt : Int) (r1 : List Int) (r2 : Bool) (W : World) (h : spec_OneByOldest.f c fr tt = some (r1, r2)) :
    Calls Tryz.prog 35 #[.int .i64 c, .int .i64 fr, .int .i64 tt] W fun e w' => ∃ v0_ : Value, e = .returned (.tuple #[v0_, .bool r2]) ∧ Kd.R (Kd.int .i64) 3 w' W.heap.size (fun _ => True) v0_ r1 ∧ Below W.heap.size W w' := by
  unfold spec_OneByOldest.f at h
  obtain ⟨b, hb, h⟩ := Option.bind_eq_some_iff.1 h
  have HA := Aside0.mk (fun w => spec_siRange.calls c fr tt b w hb)
  cases b with
  | false =>
    simp only [Bool.false_eq_true, if_false, Option.some.injEq, Prod.mk.injEq] at h
    obtain ⟨rfl, rfl⟩ := h
    clear hb
    go_enter Tryz.func35, Tryz.ntmps35
    go_wp2_with (go_at_call 73; (with_reducible refine (HA.out _).mono ?_); rintro e w' ⟨rfl, ⟨nd, rfl⟩⟩)
    go_ret2
    exact ⟨_, rfl, Kd.R_nil _ _ _ _ _, pw_below_drewN (Below.refl _ _) nd⟩
  | true =>
    simp only [if_true] at h
    by_cases hk : 0 ≤ tt - fr + 1 ∧ 0 ≤ fr ∧ fr ≤ 160000 ∧ tt ≤ 160000
    · rw [if_pos hk] at h
      obtain ⟨l0, hl0, h⟩ := Option.bind_eq_some_iff.1 h
      simp only [Option.some.injEq, Prod.mk.injEq] at h
      obtain ⟨rfl, rfl⟩ := h
      obtain ⟨N, hN⟩ : ∃ N, N = (tt - fr + 1).toNat := ⟨_, rfl⟩
      rw [← hN] at hl0
      have hNI : (N : Int) = tt - fr + 1 := by omega
      have HI := Aside0.mk (show ∀ i, i ≤ N → ∃ l, oneS c fr i = some l from fun i hi => oneS_down (i := i) (N - i) (by rw [show i + (N - i) = N by omega]; exact hl0))
      have HL0 := Aside0.mk hl0
      have HST := Aside0.mk (fun (i : Nat) (l : List Int) (h : oneS c fr (i + 1) = some l) => oneS_step h)
      have HLE := Aside0.mk (fun (i : Nat) (l : List Int) (h : oneS c fr i = some l) => oneS_len h)
      have HNI := Aside0.mk hNI
      have HSS := Aside0.mk (fun p s w h => spec_siSets.calls c p s w h)
      clear hb hN hl0 hNI
      go_enter Tryz.func35, Tryz.ntmps35
      go_wp2_with (go_at_call 73; (with_reducible refine (HA.out _).mono ?_); rintro e w' ⟨rfl, ⟨nd, rfl⟩⟩)
      go_loopw [8, 9] (fun v8 v9 wr => ∃ (i : Nat) (l : List Int), i ≤ N ∧ v9 = .int .i64 (fr + (i : Int)) ∧ oneS c fr i = some l ∧ Aside0 ((Kd.int .i64).R 3 wr W.heap.size (fun _ => True) v8 l) ∧ Aside0 (Below W.heap.size W wr)) (fun _ v9 _ => (tt + 1 - intOf v9).toNat)
      case atStart => exact ⟨0, [], Nat.zero_le _, by simp, rfl, ⟨Kd.R_nil _ _ _ _ _⟩, ⟨pw_below_drewN (Below.refl _ _) nd⟩⟩
      case round =>
        obtain ⟨i, l, hi, rfl, hl, HO2, HB2⟩ := hrel
        have hni := HNI.out
        by_cases hlt : i < N
        · have hlt1 : decide (fr + (i : Int) ≤ tt) = true := decide_eq_true (by omega)
          have hfi : fr + (i : Int) ≤ 160000 := by omega
          have HFI := Aside0.mk (show (i : Int) < (N : Int) ∧ (N : Int) = tt - fr + 1 by omega)
          obtain ⟨l', hl'⟩ := HI.out (i + 1) hlt
          obtain ⟨l2, s, g1, g2, g3, g4⟩ := HST.out i l' hl'
          obtain rfl : l2 = l := Option.some.inj (g1.symm.trans hl)
          have hll := HLE.out i l2 g1
          have HL' := Aside0.mk hl'
          unfold okTold at g3
          obtain ⟨hk1, hk2⟩ := Bool.and_eq_true_iff.1 g3
          have HS1 := Aside0.mk (HSS.out (fr + (i : Int)) s wr g2)
          have HS2 := Aside0.mk (fun A1 c1 w (h : Kd.C (Kd.slice 3 (Kd.int .i64)) w A1 s.length s) (h1 : s.length ≤ c1) => siTold_true A1 c1 s w h h1 (okSets_ages hk1) (fun x hx => of_decide_eq_true (List.all_eq_true.1 hk2 x hx)) (okSets_len hk1))
          obtain ⟨Ao, co, rfl⟩ := Kd.R_slice HO2.out
          obtain ⟨tn, htn⟩ : ∃ tn, tn = (toldS true s).length := ⟨_, rfl⟩
          have HS3 := Aside0.mk (show ∀ A1 c1 w, Kd.C (Kd.slice 3 (Kd.int .i64)) w A1 s.length s → s.length ≤ c1 → Calls Tryz.prog 46 #[.slice A1 s.length c1, .bool true] w fun e w' => ∃ A' c', e = .returned (.slice A' tn c') ∧ Below w.heap.size w w' from fun A1 c1 w h h1 => (HS2.out A1 c1 w h h1).mono (fun e w' ⟨A', c', he, _, _, hb⟩ => ⟨A', c', by rw [htn]; exact he, hb⟩))
          rw [← htn] at g4
          clear g1 g2 g3 hl hl' htn hk1 hk2 hni
          by_cases h1 : tn = 1
          · rw [if_pos h1] at g4
            subst h1
            have HG4 := Aside0.mk g4
            clear g4
            go_wp2_with (first | (go_at_call 47; (with_reducible refine HS1.out.mono ?_); rintro e w3 ⟨v3, rfl, hS, hb3⟩; obtain ⟨A1, c1, rfl, hc1, hC1⟩ := Kd.S_reads hS; have HC1 := Aside0.mk hC1; have HQ1 := Aside0.mk hc1; have HB3 := Aside0.mk hb3; clear hS hb3 hc1 hC1) | (go_at_call 46; (with_reducible refine (HS3.out _ _ _ HC1.out HQ1.out).mono ?_); rintro e w4 ⟨A3, c3, rfl, hb4⟩; have HB4 := Aside0.mk (below_step HB3.out hb4); clear hb4) | ((with_reducible refine gate_builtin (b := .append) (xs := #[.tmp 27, .tmp 29]) rfl ?_); at_builtin; refine Kd.R_append (Kd.int .i64) (w0 := W) W.heap.size rfl (.tmp 27) (.tmp 29) 31 3 (.int .i64 0) 8 rfl Tryz.underlying31 info3 rfl (by decide) (by omega) _ l2 (fr + (i : Int)) [.int .i64 (fr + (i : Int))] (fun _ => True) (fun _ => False) rfl rfl ?aP (fun _ hk => hk.elim) ?aF ?aO ?aB ?aS ?aL ?_; (case aP => exact rfl); (case aB => exact below_step HB2.out HB4.out); (case aF => exact fun _ _ => trivial); (case aO => exact Kd.R_below HO2.out HB4.out); (case aS => exact (below_step HB2.out HB4.out).size); (case aL => omega); intro v5 w5 ho hb hg hat; have HO5 := Aside0.mk ho; have HB5 := Aside0.mk hb; clear ho hb hg hat))
            go_roundw
            case rel => exact ⟨i + 1, _, by omega, by first | go_num | (congr 1; omega), HL'.out, ⟨by rw [HG4.out]; exact HO5.out⟩, HB5⟩
            case measure => have := HFI.out; simp [intOf]; omega
          · rw [if_neg h1, List.append_nil] at g4
            have hq : ((tn : Int) == 1) = false := by simp; omega
            have hq' : (tn == 1) = false := by simp; omega
            have HG4 := Aside0.mk g4
            clear g4 h1
            go_wp2_with (first | (go_at_call 47; (with_reducible refine HS1.out.mono ?_); rintro e w3 ⟨v3, rfl, hS, hb3⟩; obtain ⟨A1, c1, rfl, hc1, hC1⟩ := Kd.S_reads hS; have HC1 := Aside0.mk hC1; have HQ1 := Aside0.mk hc1; have HB3 := Aside0.mk hb3; clear hS hb3 hc1 hC1) | (go_at_call 46; (with_reducible refine (HS3.out _ _ _ HC1.out HQ1.out).mono ?_); rintro e w4 ⟨A3, c3, rfl, hb4⟩; have HB4 := Aside0.mk (below_step HB3.out hb4); clear hb4))
            go_roundw
            case rel => exact ⟨i + 1, _, by omega, by first | go_num | (congr 1; omega), HL'.out, ⟨by rw [HG4.out]; exact Kd.R_below HO2.out HB4.out⟩, ⟨below_step HB2.out HB4.out⟩⟩
            case measure => have := HFI.out; simp [intOf]; omega
        · obtain rfl : i = N := by omega
          have hlt1 : decide (fr + (i : Int) ≤ tt) = false := decide_eq_false (by omega)
          obtain rfl : l = l0 := Option.some.inj (hl.symm.trans HL0.out)
          clear hl hni
          go_wp2
          go_ret2
          exact ⟨_, rfl, HO2.out, HB2.out⟩
    · rw [if_neg hk] at h
      cases h

end Go.Proofs.YtlbnhjeblknepaaGreat.E
