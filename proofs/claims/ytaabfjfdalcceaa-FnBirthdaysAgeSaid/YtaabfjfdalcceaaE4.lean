-- WRITTEN by xprint.py, a program of this session that drives the kit's printer: out of the translation. Lean checks it.
import Derived.Test.YtaabfjfdalcceaaE0
import Derived.Test.YtaabfjfdalcceaaE3
import Derived.Test.YtaabfjfdalcceaaWLast
import Derived.Test.YtaabfjfdalcceaaWWords
namespace Go.Proofs.Ytaabfjfdalcceaa.E
open Go.RowKit Go.Proofs.YtaabfjfdalcceaaW.PrintWords Go.Proofs.YtaabfjfdalcceaaW.PrintLast
set_option linter.unusedVariables false
set_option linter.unusedSimpArgs false

-- OURS, BY HAND
/-! ### impl_AreBirthDates: function 57 -/
-- func impl.AreBirthDates
-- ext rounds=0 making=1
-- needs impl.IsDate
-- needs impl.between
def dateOk (d : S26) : Bool := decide (0 ≤ d.f0 ∧ d.f0 ≤ 3000 ∧ 1 ≤ d.f1 ∧ d.f1 ≤ 365)
theorem impl_IsDate.val (y d : Int) : impl_IsDate.f y d = some (decide (0 ≤ y ∧ y ≤ 3000 ∧ 1 ≤ d ∧ d ≤ 365)) := by
  unfold impl_IsDate.f impl_between.f
  by_cases h1 : 0 ≤ y <;> by_cases h2 : y ≤ 3000 <;> by_cases h3 : 1 ≤ d <;> by_cases h4 : d ≤ 365 <;> simp [h1, h2, h3, h4]
theorem closure44 (d : S26) (w : World) : Calls Try.prog 64 #[.agg #[.int .i64 d.f0, .int .i64 d.f1]] w fun e w' => e = .returned (.bool (!dateOk d)) ∧ Below w.heap.size w w' := by
  have hc := fun w => impl_IsDate.calls d.f0 d.f1 (dateOk d) w (impl_IsDate.val _ _)
  have hu25 := Try.underlying26
  go_enter Try.func64, Try.ntmps64
  go_wp2_with (go_at_call 32; (with_reducible refine (hc _).mono ?_); rintro e w' ⟨rfl, hb⟩)
  go_ret
  exact ⟨rfl, below_then (below_alloc (Below.refl _ _) _) (by simp) hb⟩
def firstBad : List S26 → Nat → Int
  | [], _ => -1
  | d :: l, i => if dateOk d then firstBad l (i + 1) else i
theorem firstBad_drop (l : List S26) (k : Nat) (h : k < l.length) : firstBad (l.drop k) k = if dateOk (rd_T26 l k) then firstBad (l.drop (k + 1)) (k + 1) else k := by
  rw [List.drop_eq_getElem_cons h]
  simp only [firstBad]
  have : rd_T26 l k = l[k] := by simp [rd_T26, List.getD, List.getElem?_eq_getElem h]
  rw [this]
set_option maxHeartbeats 800000 in
theorem index46 (A0 : Option Addr) (c0 : Nat) (l0 : List S26) (w : World) (hr0 : Kd.C k26 w A0 l0.length l0) (hc0 : l0.length ≤ c0) :
    Calls Try.prog 66 #[.slice A0 l0.length c0, .func (.func 64) #[] #[]] w fun e w' => e = .returned (.int .i64 (firstBad l0 0)) ∧ Below w.heap.size w w' := by
  have hu25 := Try.underlying26
  have hm := Kd.C_max hr0
  go_enter Try.func66, Try.ntmps66
  go_wp2
  go_loopw [8] (fun v8 wr => ∃ k : Nat, k ≤ l0.length ∧ v8 = .int .i64 k ∧ Aside0 (firstBad l0 0 = firstBad (l0.drop k) k) ∧ Aside0 (Below w.heap.size w wr)) (fun v8 _ => l0.length - (intOf v8).toNat)
  case atStart => exact ⟨0, Nat.zero_le _, rfl, ⟨by simp⟩, ⟨Below.refl _ _⟩⟩
  case round =>
    obtain ⟨k, hk, rfl, HE, HB⟩ := hrel
    by_cases hlt : k < l0.length
    · obtain ⟨ad, rfl, hx0, hx1⟩ := at_T26 (Kd.C_below hr0 HB.out) (k : Int) (by omega) (by omega)
      rw [Int.toNat_natCast] at hx0 hx1
      have hcl := fun w => closure44 (rd_T26 l0 k) w
      cases hok : dateOk (rd_T26 l0 k) with
      | true =>
        rw [hok] at hcl
        go_wp2_with (go_at_call 64; (with_reducible refine (hcl _).mono ?_); rintro e w' ⟨rfl, hb⟩)
        go_roundw
        case rel => exact ⟨k + 1, by omega, by go_num, ⟨by rw [HE.out, firstBad_drop l0 k hlt, hok, if_pos rfl]⟩, ⟨below_then HB.out HB.out.size hb⟩⟩
        case measure => simp [intOf]; omega
      | false =>
        rw [hok] at hcl
        go_wp2_with (go_at_call 64; (with_reducible refine (hcl _).mono ?_); rintro e w' ⟨rfl, hb⟩)
        go_ret
        exact ⟨by rw [HE.out, firstBad_drop l0 k hlt, hok]; rfl, below_then HB.out HB.out.size hb⟩
    · go_wp2
      go_ret
      exact ⟨by rw [HE.out, List.drop_of_length_le (by omega)]; rfl, HB.out⟩
theorem firstBad_all (l : List S26) : ∀ i : Nat, (i : Int) ≤ firstBad l i ∧ l.all dateOk = false ∨ firstBad l i = -1 ∧ l.all dateOk = true := by
  induction l with
  | nil => intro i; exact .inr ⟨rfl, rfl⟩
  | cons d l ih =>
    intro i
    simp only [firstBad, List.all_cons]
    cases hd : dateOk d with
    | false => exact .inl ⟨by simp, rfl⟩
    | true =>
      rcases ih (i + 1) with ⟨h1, h2⟩ | ⟨h1, h2⟩
      · exact .inl ⟨by rw [if_pos rfl]; omega, by rw [h2]; rfl⟩
      · exact .inr ⟨by rw [if_pos rfl]; exact h1, by rw [h2]; rfl⟩
theorem contains43 (A0 : Option Addr) (c0 : Nat) (l0 : List S26) (w : World) (hr0 : Kd.C k26 w A0 l0.length l0) (hc0 : l0.length ≤ c0) :
    Calls Try.prog 63 #[.slice A0 l0.length c0, .func (.func 64) #[] #[]] w fun e w' => e = .returned (.bool (!l0.all dateOk)) ∧ Below w.heap.size w w' := by
  have HI := am (index46 A0 c0 l0 w hr0 hc0)
  rcases firstBad_all l0 0 with ⟨h1, h2⟩ | ⟨h1, h2⟩
  · have c1 : decide (0 ≤ firstBad l0 0) = true := decide_eq_true (by simpa using h1)
    rw [h2]
    go_enter Try.func63, Try.ntmps63
    go_wp2_with (go_at_call 66; (with_reducible refine HI.out.mono ?_); rintro e w' ⟨rfl, hb⟩)
    go_ret
    exact ⟨rfl, hb⟩
  · rw [h1] at HI
    rw [h2]
    go_enter Try.func63, Try.ntmps63
    go_wp2_with (go_at_call 66; (with_reducible refine HI.out.mono ?_); rintro e w' ⟨rfl, hb⟩)
    go_ret
    exact ⟨rfl, hb⟩
def impl_AreBirthDates.f (l : List S26) : Option Bool := some (decide (1 ≤ l.length ∧ l.length ≤ 8) && l.all dateOk)
theorem between30 (n a b : Int) : impl_between.f n a b = some (decide (a ≤ n ∧ n ≤ b)) := by
  unfold impl_between.f
  by_cases h1 : a ≤ n <;> by_cases h2 : n ≤ b <;> simp [h1, h2]
theorem impl_AreBirthDates.calls (A0 : Option Addr) (c0 : Nat) (l0 : List (S26)) (r : Bool) (w : World) (hr0 : Kd.C k26 w A0 l0.length l0) (hc0 : l0.length ≤ c0) (h : impl_AreBirthDates.f l0 = some r) :
    Calls Try.prog 57 #[.slice A0 l0.length c0] w fun e w' => e = .returned (.bool r) ∧ Below w.heap.size w w' := by
  obtain rfl := Option.some.inj h
  clear h
  have H1 := fun w => impl_between.calls l0.length 1 8 _ w (between30 _ _ _)
  by_cases c : 1 ≤ l0.length ∧ l0.length ≤ 8
  · have c' : (decide (1 ≤ (l0.length : Int) ∧ (l0.length : Int) ≤ 8)) = true := decide_eq_true (by omega)
    rw [c'] at H1
    have HC := fun w hr => contains43 A0 c0 l0 w hr hc0
    rw [decide_eq_true c]
    have HR := am hr0
    clear c c' hr0 hc0
    go_enter Try.func57, Try.ntmps57
    go_wp2_with (first | (go_at_call 47; (with_reducible refine (H1 _).mono ?_); rintro e w' ⟨rfl, ⟨nd, rfl⟩⟩) | (go_at_call 63; (with_reducible refine (HC _ (by first | exact HR.out | exact Kd.C_drewN HR.out _)).mono ?_); rintro e w' ⟨rfl, hb⟩))
    go_ret
    exact ⟨by simp, below_then (pw_below_drewN (Below.refl _ _) nd) (by simp) hb⟩
  · have c' : (decide (1 ≤ (l0.length : Int) ∧ (l0.length : Int) ≤ 8)) = false := decide_eq_false (by omega)
    rw [c'] at H1
    rw [decide_eq_false c]
    clear c c' hr0 hc0
    go_enter Try.func57, Try.ntmps57
    go_wp2_with (first | (go_at_call 47; (with_reducible refine (H1 _).mono ?_); rintro e w' ⟨rfl, ⟨nd, rfl⟩⟩))
    go_ret
    exact ⟨by simp, pw_below_drewN (Below.refl _ _) nd⟩

end Go.Proofs.Ytaabfjfdalcceaa.E
