/- Chapter 3, plain: days apart, days added, and the laws' own helpers. No condition beyond those typed at each lemma. -/
import Derived.Test.YtaabfjfdalcceaaC3Base
import Derived.Test.YtaabfjfdalcceaaE10
import Derived.Test.YtaabfjfdalcceaaE11
import Derived.Test.YtaabfjfdalcceaaE15
import Derived.Test.YtaabfjfdalcceaaE17
import Derived.Test.YtaabfjfdalcceaaE4
import Derived.Test.YtaabfjfdalcceaaE7
import Derived.Test.YtaabfjfdalcceaaE8
import Derived.Test.YtaabfjfdalcceaaE9
namespace Go.Proofs.Ytaabfjfdalcceaa.Pure
open Go.RowKit Go.Proofs.Ytaabfjfdalcceaa.E Go.Proofs.YtaabfjfdalcceaaW.PrintWords Go.Proofs.YtaabfjfdalcceaaW.PrintLast
set_option linter.unusedVariables false
set_option linter.unusedSimpArgs false

def absI (x : Int) : Int := if 0 ≤ x then x else -x
def apartV (a b : D) : Int × Bool := if (dateOk a && dateOk b) = true then (absI (dy a - dy b), true) else (0, false)
theorem ev_implApart (a b : D) : Ev (fun k => impl_DaysApart.f k a.f0 a.f1 b.f0 b.f1) (apartV a b) := by
  unfold impl_DaysApart.f apartV
  rw [isDate_val, isDate_val]
  have ha' : dateOk ⟨a.f0, a.f1⟩ = dateOk a := rfl
  have hb' : dateOk ⟨b.f0, b.f1⟩ = dateOk b := rfl
  rw [ha', hb']
  simp only [Option.bind_some]
  cases ha : dateOk a with
  | false =>
    simp only [Bool.false_eq_true, if_false, Bool.false_and]
    exact Ev.step (f := fun _ => some (0, false)) (fun k => by rw [impl_DaysApart.j0, if_pos rfl]) (Ev.now _)
  | true =>
    cases hb : dateOk b with
    | false =>
      simp only [Bool.false_eq_true, if_false, Bool.true_and, if_true, Bool.not_false]
      exact Ev.step (f := fun _ => some (0, false)) (fun k => by rw [impl_DaysApart.j0, if_pos rfl]) (Ev.now _)
    | true =>
      have r1 := dy_range ha
      have r2 := dy_range hb
      simp only [if_true, Bool.true_and, Bool.not_true]
      refine Ev.step (f := fun _ => some (absI (dy a - dy b), true)) (fun k => ?_) (Ev.now _)
      rw [impl_DaysApart.j0, if_neg (by simp), index_ok ha, index_ok hb]
      simp only [Option.bind_some]
      rw [w64 (x := dy a - dy b) (by omega) (by omega), w64 (x := -(dy a - dy b)) (by omega) (by omega)]
      have : mx (dy a - dy b) (-(dy a - dy b)) = absI (dy a - dy b) := by unfold mx absI; split <;> split <;> omega
      rw [this]
theorem ev_specApart (a b : D) : Ev (fun k => spec_DaysApart.f k a.f0 a.f1 b.f0 b.f1) (apartV a b) := by
  unfold spec_DaysApart.f apartV
  rw [biDate_val, biDate_val]
  have ha' : dateOk ⟨a.f0, a.f1⟩ = dateOk a := rfl
  have hb' : dateOk ⟨b.f0, b.f1⟩ = dateOk b := rfl
  rw [ha', hb']
  simp only [Option.bind_some]
  cases ha : dateOk a with
  | false =>
    simp only [Bool.false_eq_true, if_false, Bool.false_and]
    exact Ev.step (f := fun _ => some (0, false)) (fun k => by rw [spec_DaysApart.j0, if_pos rfl]) (Ev.now _)
  | true =>
    cases hb : dateOk b with
    | false =>
      simp only [Bool.false_eq_true, if_false, Bool.true_and, if_true, Bool.not_false]
      exact Ev.step (f := fun _ => some (0, false)) (fun k => by rw [spec_DaysApart.j0, if_pos rfl]) (Ev.now _)
    | true =>
      have r1 := dy_range ha
      have r2 := dy_range hb
      simp only [if_true, Bool.true_and, Bool.not_true]
      refine Ev.step (f := fun _ => some (absI (dy a - dy b), true)) (fun k => ?_) (Ev.now _)
      rw [spec_DaysApart.j0, if_neg (by simp), biDays_ok ha, biDays_ok hb]
      simp only [Option.bind_some]
      rw [w64 (x := dy a - dy b) (by omega) (by omega)]
      have : spec_l1Abs.f (dy a - dy b) = some (absI (dy a - dy b)) := by
        unfold spec_l1Abs.f spec_l1Most.f absI
        rw [w64 (x := -(dy a - dy b)) (by omega) (by omega)]
        by_cases h : 0 ≤ dy a - dy b
        · rw [if_pos h]
          split
          all_goals simp only [Option.bind_some, Option.some.injEq]
          all_goals omega
        · rw [if_neg h]
          split
          all_goals simp only [Option.bind_some, Option.some.injEq]
          all_goals omega
      rw [this]
      rfl
def backV (m : Int) : Int × Int × Bool := if 0 ≤ m ∧ m ≤ 1095364 then ((dateD m).f0, (dateD m).f1, true) else (0, 0, false)
theorem back_is (m : Int) : spec_biBack.f m = some (backV m) := by
  unfold backV
  by_cases h : 0 ≤ m ∧ m ≤ 1095364
  · rw [back_val h.1 h.2, if_pos h]; rfl
  · rw [back_none h, if_neg h]
def addV (d : D) (n : Int) : Int × Int × Bool := if (dateOk d && decide (-2000000 ≤ n ∧ n ≤ 2000000)) = true then backV (dy d + n) else (0, 0, false)
theorem ev_implAdd (d : D) (n : Int) : Ev (fun k => impl_AddDays.f k d.f0 d.f1 n) (addV d n) := by
  unfold impl_AddDays.f addV
  rw [isDate_val]
  have ha' : dateOk ⟨d.f0, d.f1⟩ = dateOk d := rfl
  rw [ha', between_val]
  simp only [Option.bind_some]
  cases ha : dateOk d with
  | false =>
    simp only [Bool.false_eq_true, if_false, Bool.false_and]
    exact Ev.step (f := fun _ => some (0, 0, false)) (fun k => by rw [impl_AddDays.j0, if_pos rfl]) (Ev.now _)
  | true =>
    by_cases hn : -2000000 ≤ n ∧ n ≤ 2000000
    · rw [decide_eq_true hn]
      have r1 := dy_range ha
      simp only [if_true, Bool.true_and, Bool.not_true]
      refine Ev.step (f := fun _ => some (backV (dy d + n))) (fun k => ?_) (Ev.now _)
      rw [impl_AddDays.j0, if_neg (by simp), index_ok ha]
      simp only [Option.bind_some]
      rw [w64 (x := dy d + n) (by omega) (by omega), dateAt_eq, back_is]
      rfl
    · rw [decide_eq_false hn]
      simp only [Bool.false_eq_true, if_false, Bool.true_and, if_true, Bool.not_false]
      exact Ev.step (f := fun _ => some (0, 0, false)) (fun k => by rw [impl_AddDays.j0, if_pos rfl]) (Ev.now _)
theorem ev_specAdd (d : D) (n : Int) : Ev (fun k => spec_AddDays.f k d.f0 d.f1 n) (addV d n) := by
  unfold spec_AddDays.f addV
  rw [biDate_val]
  have ha' : dateOk ⟨d.f0, d.f1⟩ = dateOk d := rfl
  rw [ha', l1In_val]
  simp only [Option.bind_some]
  cases ha : dateOk d with
  | false =>
    simp only [Bool.false_eq_true, if_false, Bool.false_and]
    exact Ev.step (f := fun _ => some (0, 0, false)) (fun k => by rw [spec_AddDays.j0, if_pos rfl]) (Ev.now _)
  | true =>
    by_cases hn : -2000000 ≤ n ∧ n ≤ 2000000
    · rw [decide_eq_true hn]
      have r1 := dy_range ha
      simp only [if_true, Bool.true_and, Bool.not_true]
      refine Ev.step (f := fun _ => some (backV (dy d + n))) (fun k => ?_) (Ev.now _)
      rw [spec_AddDays.j0, if_neg (by simp), biDays_ok ha]
      simp only [Option.bind_some]
      rw [w64 (x := dy d + n) (by omega) (by omega), back_is]
      rfl
    · rw [decide_eq_false hn]
      simp only [Bool.false_eq_true, if_false, Bool.true_and, if_true, Bool.not_false]
      exact Ev.step (f := fun _ => some (0, 0, false)) (fun k => by rw [spec_AddDays.j0, if_pos rfl]) (Ev.now _)

/-! ### the laws' helpers -/
theorem rd_at (xs : List Int) (i : Nat) (h : i < xs.length) : rd xs (i : Int) = xs[i] := by
  simp [rd, List.getD_eq_getElem?_getD, List.getElem?_eq_getElem h]
theorem gSame_loop (l : List Int) (hn : l.length ≤ 1048576) (d : Nat) : ∀ (i : Nat), l.length - i = d → i ≤ l.length → Ev (fun k => laws_gSame.l0 k l l (l.length : Int) (i : Int)) true := by
  induction d with
  | zero =>
    intro i hd hi
    exact Ev.step (f := fun _ => some true) (fun k => by rw [laws_gSame.l0, if_neg (by omega)]) (Ev.now _)
  | succ d ih =>
    intro i hd hi
    refine Ev.step (fun k => ?_) (ih (i + 1) (by omega) (by omega))
    rw [laws_gSame.l0, if_pos (by omega), if_pos (by omega), if_pos (by omega), if_pos (by omega)]
    simp only [if_true]
    rw [w_succ i l.length (by omega) (by omega)]
theorem ev_gSame (l : List Int) (hn : l.length ≤ 1048576) : Ev (fun k => laws_gSame.f k l l) true := by
  unfold laws_gSame.f
  simp only [if_true]
  simpa using gSame_loop l hn l.length 0 (by omega) (by omega)
theorem gSum_loop (xs : List Int) (h8 : xs.length ≤ 8) (hx : ∀ x ∈ xs, 0 ≤ x ∧ x ≤ 10000) (d : Nat) : ∀ (i : Nat) (s : Int), xs.length - i = d → i ≤ xs.length → 0 ≤ s → s ≤ 10000 * i →
    Ev (fun k => laws_gSum.l0 k s xs (xs.length : Int) (i : Int)) (s + (xs.drop i).sum) := by
  induction d with
  | zero =>
    intro i s hd hi h0 h1
    rw [List.drop_of_length_le (by omega)]
    exact Ev.step (f := fun _ => some (s + 0)) (fun k => by rw [laws_gSum.l0, if_neg (by omega), Int.add_zero]) (Ev.now _)
  | succ d ih =>
    intro i s hd hi h0 h1
    have hlt : i < xs.length := by omega
    have e := rd_at xs i hlt
    have hb := hx _ (List.getElem_mem hlt)
    have hs := ih (i + 1) (s + xs[i]) (by omega) (by omega) (by omega) (by omega)
    rw [List.drop_eq_getElem_cons hlt, List.sum_cons, ← Int.add_assoc]
    refine Ev.step (fun k => ?_) hs
    rw [laws_gSum.l0, if_pos (by omega), if_pos (by omega), if_pos (by omega), e, w64 (x := s + xs[i]) (by omega) (by omega), w_succ i xs.length hlt (by omega)]
theorem ev_gSum (xs : List Int) (h8 : xs.length ≤ 8) (hx : ∀ x ∈ xs, 0 ≤ x ∧ x ≤ 10000) : Ev (fun k => laws_gSum.f k xs) xs.sum := by
  unfold laws_gSum.f
  simpa using gSum_loop xs h8 hx xs.length 0 0 (by omega) (by omega) (by omega) (by omega)
theorem gRises_loop (xs : List Int) (hn : xs.length ≤ 1048576) (hx : ∀ i : Nat, i + 1 < xs.length → rd xs (i : Int) < rd xs ((i + 1 : Nat) : Int)) (d : Nat) : ∀ (i : Nat), xs.length - i = d → 1 ≤ i → i ≤ xs.length ∨ xs.length = 0 → Ev (fun k => laws_gRises.l0 k xs (i : Int)) true := by
  induction d with
  | zero =>
    intro i hd h1 hi
    exact Ev.step (f := fun _ => some true) (fun k => by rw [laws_gRises.l0, if_neg (by omega)]) (Ev.now _)
  | succ d ih =>
    intro i hd h1 hi
    have hlt : i < xs.length := by omega
    have h2 := hx (i - 1) (by omega)
    rw [show i - 1 + 1 = i by omega, show ((i - 1 : Nat) : Int) = (i : Int) - 1 by omega] at h2
    refine Ev.step (fun k => ?_) (ih (i + 1) (by omega) (by omega) (.inl (by omega)))
    have e1 : wrap64 ((i : Int) - 1) = (i : Int) - 1 := w64 (by omega) (by omega)
    rw [laws_gRises.l0, if_pos (by omega), e1]
    rw [if_pos (by omega), if_pos (by omega), if_pos (by omega), if_neg (by omega)]
    rw [w_succ i xs.length hlt (by omega)]
theorem ev_gRises (xs : List Int) (hn : xs.length ≤ 1048576) (hx : ∀ i : Nat, i + 1 < xs.length → rd xs (i : Int) < rd xs ((i + 1 : Nat) : Int)) : Ev (fun k => laws_gRises.f k xs) true := by
  unfold laws_gRises.f
  by_cases h : xs.length = 0
  · exact Ev.step (f := fun _ => some true) (fun k => by rw [laws_gRises.l0, if_neg (by omega)]) (Ev.now _)
  · simpa using gRises_loop xs hn hx (xs.length - 1) 1 (by omega) (by omega) (.inl (by omega))
theorem gHas_loop (xs : List Int) (hn : xs.length ≤ 1048576) (n : Int) (d : Nat) : ∀ (i : Nat), xs.length - i = d → i ≤ xs.length → Ev (fun k => laws_gHas.l0 k n xs (xs.length : Int) (i : Int)) (decide (n ∈ xs.drop i)) := by
  induction d with
  | zero =>
    intro i hd hi
    rw [List.drop_of_length_le (by omega)]
    exact Ev.step (f := fun _ => some false) (fun k => by rw [laws_gHas.l0, if_neg (by omega)]) (Ev.now _)
  | succ d ih =>
    intro i hd hi
    have hlt : i < xs.length := by omega
    rw [List.drop_eq_getElem_cons hlt]
    by_cases e : rd xs (i : Int) = n
    · have : decide (n ∈ xs[i] :: xs.drop (i + 1)) = true := decide_eq_true (by rw [← e, rd_at xs i hlt]; exact List.mem_cons_self ..)
      rw [this]
      refine Ev.step (f := fun _ => some true) (fun k => ?_) (Ev.now _)
      rw [laws_gHas.l0, if_pos (by omega), if_pos (by omega), if_pos (by omega), if_pos e]
    · have : decide (n ∈ xs[i] :: xs.drop (i + 1)) = decide (n ∈ xs.drop (i + 1)) := by
        have e' : ¬ n = xs[i] := fun h => e (by rw [rd_at xs i hlt, h])
        exact decide_eq_decide.2 (by rw [List.mem_cons]; exact ⟨fun h => h.resolve_left e', .inr⟩)
      rw [this]
      refine Ev.step (fun k => ?_) (ih (i + 1) (by omega) (by omega))
      rw [laws_gHas.l0, if_pos (by omega), if_pos (by omega), if_pos (by omega), if_neg e, w_succ i xs.length hlt (by omega)]
theorem ev_gHas (xs : List Int) (hn : xs.length ≤ 1048576) (n : Int) : Ev (fun k => laws_gHas.f k xs n) (decide (n ∈ xs)) := by
  unfold laws_gHas.f
  simpa using gHas_loop xs hn n xs.length 0 (by omega) (by omega)

end Go.Proofs.Ytaabfjfdalcceaa.Pure
