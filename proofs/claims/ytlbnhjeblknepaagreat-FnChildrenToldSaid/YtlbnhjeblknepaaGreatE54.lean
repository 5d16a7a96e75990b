-- WRITTEN by xprint.py, a program of this session that drives the kit's printer: out of the translation. Lean checks it.
import Derived.Test.YtlbnhjeblknepaaGreatE0
import Derived.Test.YtlbnhjeblknepaaGreatE35
import Derived.Test.YtlbnhjeblknepaaGreatWm
namespace Go.Proofs.YtlbnhjeblknepaaGreat.E
open Go.RowKit Go.Proofs.YtlbnhjeblknepaaGreatW.PrintWords Go.Proofs.YtlbnhjeblknepaaGreatW.PrintLast
set_option linter.unusedVariables false
set_option linter.unusedSimpArgs false

-- OURS, BY HAND
/-! ### impl_TwinsIn: function 39 -/
-- func impl.TwinsIn
-- ext rounds=1 making=1
-- needs impl.isSet
def impl_TwinsIn.row (l : List Int) (i j : Nat) : Nat := ((l.take j).filter fun x => decide (rd l i = x)).length
def impl_TwinsIn.tw (l : List Int) : Nat → Nat
  | 0 => 0
  | i + 1 => impl_TwinsIn.tw l i + impl_TwinsIn.row l i i
theorem impl_TwinsIn.row_le (l : List Int) (i j : Nat) : impl_TwinsIn.row l i j ≤ j := by
  unfold impl_TwinsIn.row
  exact Nat.le_trans (List.length_filter_le _ _) (List.length_take_le _ _)
theorem impl_TwinsIn.row_succ (l : List Int) (i j : Nat) (h : j < l.length) : impl_TwinsIn.row l i (j + 1) = impl_TwinsIn.row l i j + if rd l i = rd l j then 1 else 0 := by
  unfold impl_TwinsIn.row
  have e : rd l (j : Int) = l[j] := by simp [rd, List.getD, List.getElem?_eq_getElem h]
  rw [List.take_succ_eq_append_getElem h, List.filter_append, List.length_append, e]
  congr 1
  by_cases c : rd l i = l[j]
  · rw [if_pos c]; simp [c]
  · rw [if_neg c]; simp [c]
theorem impl_TwinsIn.tw_le (l : List Int) : ∀ i, i ≤ 4 → impl_TwinsIn.tw l i ≤ 4 * i := by
  intro i
  induction i with
  | zero => intro _; exact Nat.le_refl _
  | succ i ih =>
    intro h
    have h1 := ih (by omega)
    have h2 := impl_TwinsIn.row_le l i i
    show impl_TwinsIn.tw l i + impl_TwinsIn.row l i i ≤ _
    omega
def impl_TwinsIn.f (k : Nat) (l : List Int) : Option (Int × Bool) := (impl_isSet.f k l).bind fun b => if b = true then (if l.length ≤ 4 then some ((impl_TwinsIn.tw l l.length : Int), true) else none) else some (0, false)
theorem impl_TwinsIn.mono : ∀ a0 k, LeO (impl_TwinsIn.f k a0) (impl_TwinsIn.f (k + 1) a0) := by
  intro a0 k
  unfold impl_TwinsIn.f
  exact LeO.bind (impl_isSet.mono _ _) (fun _ => LeO.refl _)
set_option maxHeartbeats 8000000 in
set_option maxRecDepth 100000 in
theorem impl_TwinsIn.calls (k : Nat) (A0 : Option Addr) (c0 : Nat) (l0 : List Int) (r1 : Int) (r2 : Bool) (w : World) (hr0 : Kd.C (Kd.int .i64) w A0 l0.length l0) (hc0 : l0.length ≤ c0) (h : impl_TwinsIn.f k l0 = some (r1, r2)) :
    Calls Tryz.prog 39 #[.slice A0 l0.length c0] w fun e w' => e = .returned (.tuple #[.int .i64 r1, .bool r2]) ∧ Below w.heap.size w w' := by
  unfold impl_TwinsIn.f at h
  obtain ⟨b, hb, h⟩ := Option.bind_eq_some_iff.1 h
  have HS := Aside0.mk (impl_isSet.calls k A0 c0 l0 b w hr0 hc0 hb)
  have HR0 := Aside0.mk hr0
  have HC0 := Aside0.mk hc0
  clear hr0 hc0 hb
  cases b with
  | false =>
    simp only [Bool.false_eq_true, if_false, Option.some.injEq, Prod.mk.injEq] at h
    obtain ⟨rfl, rfl⟩ := h
    go_enter Tryz.func39, Tryz.ntmps39
    go_wp2_with (go_at_call 59; (with_reducible refine HS.out.mono ?_); rintro e w' ⟨rfl, hbw⟩)
    go_ret2
    exact ⟨rfl, hbw⟩
  | true =>
    simp only [if_true] at h
    by_cases h4 : l0.length ≤ 4
    · rw [if_pos h4] at h
      simp only [Option.some.injEq, Prod.mk.injEq] at h
      obtain ⟨rfl, rfl⟩ := h
      have H4 := Aside0.mk h4
      clear h4
      go_enter Tryz.func39, Tryz.ntmps39
      go_wp2_with (go_at_call 59; (with_reducible refine HS.out.mono ?_); rintro e w' ⟨rfl, hbw⟩)
      obtain ⟨w1, hw1⟩ : ∃ w1, w1 = w' := ⟨_, rfl⟩
      subst hw1
      go_loopw [4, 14] (fun v4 v14 wr => ∃ i : Nat, i ≤ l0.length ∧ v14 = .int .i64 i ∧ v4 = .int .i64 (impl_TwinsIn.tw l0 i) ∧ Aside0 (∃ m, wr = w1.drewN m)) (fun _ v14 _ => l0.length - (intOf v14).toNat)
      case atStart => exact ⟨0, Nat.zero_le _, rfl, rfl, ⟨0, rfl⟩⟩
      case round =>
        obtain ⟨i, hi, rfl, rfl, HM⟩ := hrel
        obtain ⟨m0, hm0⟩ := HM.out
        clear HM
        subst hm0
        have ht := impl_TwinsIn.tw_le l0 i (by have := H4.out; omega)
        have hl4 := H4.out
        by_cases hlt : i < l0.length
        · obtain ⟨ad, rfl, hx0⟩ := Kd.at_int (Kd.C_drewN (Kd.C_below HR0.out hbw) m0) (i : Int) (by omega) (by omega)
          rw [Int.toNat_natCast] at hx0
          have hcc := HC0.out
          go_wp2
          go_loopw [4, 23] (fun v4 v23 wr => ∃ j : Nat, j ≤ i ∧ v23 = .int .i64 j ∧ v4 = .int .i64 ((impl_TwinsIn.tw l0 i + impl_TwinsIn.row l0 i j : Nat) : Int) ∧ Aside0 (∃ m, wr = w1.drewN m)) (fun _ v23 _ => i - (intOf v23).toNat)
          case atStart => exact ⟨0, Nat.zero_le _, rfl, rfl, ⟨m0, rfl⟩⟩
          case round =>
            obtain ⟨j, hj, rfl, rfl, HM⟩ := hrel
            obtain ⟨m1, hm1⟩ := HM.out
            clear HM
            subst hm1
            have hrw := impl_TwinsIn.row_le l0 i j
            have hrs := impl_TwinsIn.row_succ l0 i j
            by_cases hjt : j < i
            · have HRS := Aside0.mk (hrs (by omega))
              clear hrs
              obtain ⟨ad', he, hx1⟩ := Kd.at_int (Kd.C_drewN (Kd.C_below HR0.out hbw) m1) (j : Int) (by omega) (by omega)
              obtain rfl : ad = ad' := by injection he
              clear he
              rw [Int.toNat_natCast] at hx1
              by_cases hq : rd l0 i = rd l0 j
              · have HQ := Aside0.mk hq
                have hq1 : (rd l0 (i : Int) == rd l0 (j : Int)) = true := beq_iff_eq.mpr hq
                clear hq
                go_wp2
                go_roundw
                case rel => exact ⟨j + 1, by omega, by go_num, by rw [HRS.out, if_pos HQ.out]; go_num, ⟨_, rfl⟩⟩
                case measure => simp [intOf]; omega
              · have HQ := Aside0.mk hq
                have hq1 : (rd l0 (i : Int) == rd l0 (j : Int)) = false := beq_eq_false_iff_ne.mpr hq
                clear hq
                go_wp2
                go_roundw
                case rel => exact ⟨j + 1, by omega, by go_num, by rw [HRS.out, if_neg HQ.out]; go_num, ⟨_, rfl⟩⟩
                case measure => simp [intOf]; omega
            · obtain rfl : j = i := by omega
              clear hrs
              go_wp2
              go_roundw
              case rel => exact ⟨j + 1, by omega, by go_num, rfl, ⟨_, rfl⟩⟩
              case measure => simp [intOf]; omega
        · obtain rfl : i = l0.length := by omega
          go_wp2
          go_ret2
          exact ⟨rfl, by repeat (first | exact hbw | apply pw_below_drewN)⟩
    · rw [if_neg h4] at h
      cases h

end Go.Proofs.YtlbnhjeblknepaaGreat.E
