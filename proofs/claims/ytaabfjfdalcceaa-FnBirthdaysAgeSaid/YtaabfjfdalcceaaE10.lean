-- WRITTEN by xprint.py, a program of this session that drives the kit's printer: out of the translation. Lean checks it.
import Derived.Test.YtaabfjfdalcceaaSig
import Derived.Test.YtaabfjfdalcceaaE0
import Derived.Test.YtaabfjfdalcceaaE3
import Derived.Test.YtaabfjfdalcceaaE5
import Derived.Test.YtaabfjfdalcceaaE8
import Derived.Test.YtaabfjfdalcceaaWMore
import Derived.Test.YtaabfjfdalcceaaWTab
namespace Go.Proofs.Ytaabfjfdalcceaa.E
open Go.RowKit Go.Proofs.YtaabfjfdalcceaaW.PrintWords Go.Proofs.YtaabfjfdalcceaaW.PrintLast Go.Proofs.YtaabfjfdalcceaaW.PrintMore
attribute [local go_sem] max2_int min2_int max_two min_two max_three min_three max_four min_four   -- for this text's walks alone
set_option linter.unusedVariables false
set_option linter.unusedSimpArgs false

/-! ### impl_BirthdaysBetween: function 18 -/
def impl_BirthdaysBetween.j0 : Nat → List (S26) → Bool → Int → Int → Int → Int → Option (Int × Bool)
  | 0, _, _, _, _, _, _ => none
  | k + 1, x0, x23, x367000, x367001, x368000, x368001 => if x23 = true then (some (0, false)) else ((impl_Date_index.f x368000 x368001).bind fun t372 => ((impl_agesOn.f k x0 t372).bind fun t373 => ((impl_total.f k t373).bind fun t376 => ((impl_Date_index.f x367000 x367001).bind fun t377 => ((impl_agesOn.f k x0 t377).bind fun t378 => ((impl_total.f k t378).bind fun t381 => (some (wrap64 (t376 - t381), true))))))))
def impl_BirthdaysBetween.f (k : Nat) (l0 : List (S26)) (a1_0 : Int) (a1_1 : Int) (a2_0 : Int) (a2_1 : Int) : Option (Int × Bool) := (impl_areBornOn.f k l0 a1_0 a1_1).bind fun t368 => (if t368 = true then ((impl_IsDate.f a2_0 a2_1).bind fun t369 => (if t369 = true then ((impl_Date_index.f a2_0 a2_1).bind fun t370 => ((impl_Date_index.f a1_0 a1_1).bind fun t371 => (impl_BirthdaysBetween.j0 k l0 (decide (t370 < t371)) a1_0 a1_1 a2_0 a2_1))) else (impl_BirthdaysBetween.j0 k l0 true a1_0 a1_1 a2_0 a2_1))) else (impl_BirthdaysBetween.j0 k l0 true a1_0 a1_1 a2_0 a2_1))
theorem impl_BirthdaysBetween.mono_l : ∀ k, (∀ y0 y1 y2 y3 y4 y5, LeO (impl_BirthdaysBetween.j0 k y0 y1 y2 y3 y4 y5) (impl_BirthdaysBetween.j0 (k + 1) y0 y1 y2 y3 y4 y5))
  | 0 => fun _ _ _ _ _ _ r h => by simp [impl_BirthdaysBetween.j0] at h
  | k + 1 => by
    have ih0 := impl_BirthdaysBetween.mono_l k
    · intro y0 y1 y2 y3 y4 y5
      unfold impl_BirthdaysBetween.j0
      repeat' first
      | (with_reducible exact ih0 _ _ _ _ _ _)
      | (with_reducible exact impl_agesOn.mono _ _ _)
      | (with_reducible exact impl_areBornOn.mono _ _ _ _)
      | (with_reducible exact impl_total.mono _ _)
      | (with_reducible exact LeO.refl _)
      | (with_reducible exact LeO.none _)
      | (with_reducible refine LeO.ite ?_ ?_)
      | (with_reducible refine LeO.bind ?_ (fun _ => ?_))
      | exact ih0 _ _ _ _ _ _
      | exact impl_agesOn.mono _ _ _
      | exact impl_areBornOn.mono _ _ _ _
      | exact impl_total.mono _ _
      | exact LeO.none _
      | refine LeO.ite ?_ ?_
      | refine LeO.bind ?_ (fun _ => ?_)
theorem impl_BirthdaysBetween.mono : ∀ a0 a1 a2 a3 a4 k, LeO (impl_BirthdaysBetween.f k a0 a1 a2 a3 a4) (impl_BirthdaysBetween.f (k + 1) a0 a1 a2 a3 a4) := by
  intro a0 a1 a2 a3 a4 k
  have ih0 := impl_BirthdaysBetween.mono_l k
  unfold impl_BirthdaysBetween.f
  repeat' first
      | (with_reducible exact ih0 _ _ _ _ _ _)
      | (with_reducible exact impl_agesOn.mono _ _ _)
      | (with_reducible exact impl_areBornOn.mono _ _ _ _)
      | (with_reducible exact impl_total.mono _ _)
      | (with_reducible exact LeO.refl _)
      | (with_reducible exact LeO.none _)
      | (with_reducible refine LeO.ite ?_ ?_)
      | (with_reducible refine LeO.bind ?_ (fun _ => ?_))
      | exact ih0 _ _ _ _ _ _
      | exact impl_agesOn.mono _ _ _
      | exact impl_areBornOn.mono _ _ _ _
      | exact impl_total.mono _ _
      | exact LeO.none _
      | refine LeO.ite ?_ ?_
      | refine LeO.bind ?_ (fun _ => ?_)
def impl_BirthdaysBetween.T1 : Bool × List (List Nat × List Nat) := (true, [([], []), ([], []), ([0, 1], [0, 1]), ([2], [2]), ([3, 2], [3]), ([4], [4]), ([5, 4, 4], [4, 5]), ([6, 4], [4, 6]), ([4, 7], [4, 7]), ([8, 6], [8]), ([9], [9]), ([10, 9, 9], [9, 10]), ([9], [9]), ([12, 11, 9], [9, 12]), ([11, 13, 9], [9, 11, 13]), ([9, 14], [9, 14])])
def impl_BirthdaysBetween.B1 : List Nat := [0, 0, 3, 7, 15, 31, 63, 127, 255, 511, 1023, 2047, 1023, 8191, 16383, 32767]
theorem impl_BirthdaysBetween.tab1 : rtab .any (opsOf Try.f18 1) = impl_BirthdaysBetween.T1 := by kernel_rfl
theorem impl_BirthdaysBetween.bits1 : waitsOk impl_BirthdaysBetween.T1.2 impl_BirthdaysBetween.B1 = true := by kernel_rfl
def impl_BirthdaysBetween.T3 : Bool × List (List Nat × List Nat) := (true, [([], []), ([], []), ([1], [1]), ([0, 2, 2], [0, 2]), ([3, 3], [3]), ([], []), ([], []), ([6, 4], [6]), ([5, 7, 7], [5, 7]), ([8, 8], [8]), ([4, 9], [4, 9]), ([10, 9, 0, 1, 2, 3, 4, 5, 6, 7, 8, 9, 10], [10]), ([11, 0, 1, 2, 3, 4, 5, 6, 7, 8, 9, 10, 11], [])])
def impl_BirthdaysBetween.B3 : List Nat := [0, 0, 2, 7, 15, 0, 0, 95, 255, 511, 1023, 2047, 4095]
theorem impl_BirthdaysBetween.tab3 : rtab .any (opsOf Try.f18 3) = impl_BirthdaysBetween.T3 := by kernel_rfl
theorem impl_BirthdaysBetween.bits3 : waitsOk impl_BirthdaysBetween.T3.2 impl_BirthdaysBetween.B3 = true := by kernel_rfl
set_option maxHeartbeats 8000000 in
set_option maxRecDepth 100000 in
set_option maxRecDepth 100000 in
set_option maxHeartbeats 4000000 in
theorem impl_BirthdaysBetween.calls (k : Nat) (A0 : Option Addr) (c0 : Nat) (l0 : List (S26)) (a1_0 : Int) (a1_1 : Int) (a2_0 : Int) (a2_1 : Int) (r1 : Int) (r2 : Bool) (w : World) (hr0 : Kd.C k26 w A0 l0.length l0) (hc0 : l0.length ≤ c0) (h : impl_BirthdaysBetween.f k l0 a1_0 a1_1 a2_0 a2_1 = some (r1, r2)) :
    Calls Try.prog 18 #[.slice A0 l0.length c0, .agg #[.int .i64 a1_0, .int .i64 a1_1], .agg #[.int .i64 a2_0, .int .i64 a2_1]] w fun e w' => e = .returned (.tuple #[.int .i64 r1, .bool r2]) ∧ Below w.heap.size w w' := by
  have H := h
  clear h
  unfold impl_BirthdaysBetween.f at H
  refine Sg.fn2 (m := 8) Try.func18 rfl rfl rfl rfl rfl (fun Q hQp hQ => ?_)
  refine Sg.sq ?_
  refine Sg.rg ?_
  refine Sg.bx (cs := #[.int .i64 a1_0, .int .i64 a1_1]) (t0 := 26) (hs := Sg.rs rfl rfl) (hx := by first | (go_simp; done) | (go_simp; rfl)) (h := fun g1 w2 e3 x4 b5 => ⟨_, (Sg.pn rfl), ?_⟩)
  have l6 : w.heap.size ≤ g1 := Nat.le_of_eq e3.symm
  refine Sg.bx (cs := #[.int .i64 a2_0, .int .i64 a2_1]) (t0 := 26) (hs := Sg.rs rfl rfl) (hx := by first | (go_simp; done) | (go_simp; rfl)) (h := fun g7 w8 e9 x10 b11 => ⟨_, (Sg.pn rfl), ?_⟩)
  have l12 : w.heap.size ≤ g7 := by rw [e9]; exact b5.size
  have n14 : g1 ≠ g7 := by rw [e9]; exact Nat.ne_of_lt (blk_lt x4)
  have x13 := blk_below x4 b11
  have q15 := below_step b5 b11
  refine Sg.asg (v := .int .i64 0) (h := ?_)
  refine Sg.asg (v := .bool false) (h := ?_)
  first | refine Sg.nl ?_ | refine Sg.nl1 ?_
  refine Sg.sq ?_
  refine Sg.sq ?_
  refine Sg.da (k := 16) (h := fun w16 b17 => ?_)
  refine Sg.dv (i := 0) (hy := fun _ => (Sg.Xmv (v := .slice A0 l0.length c0))) (h := ?_)
  refine Sg.dt (i := 1) (hb := b17) (hy := fun w_ b_ => (Sg.Xldr (hu := Try.underlying26) (hd := rfl) (hi := by kernel_rfl) (hg := blk_below x13 b_ ))) (h := ?_)
  refine Sg.dc (i := 2) (args := #[.slice A0 l0.length c0, .agg #[.int .i64 a1_0, .int .i64 a1_1]]) (hop := rfl) (hf := Try.func35) (hargs := Sg.a2 (Sg.rs rfl rfl) (Sg.rs rfl rfl)) (h := ?_)
  obtain ⟨r18, a19, H⟩ := Option.bind_eq_some_iff.1 H
  try dsimp only at H
  have f20 := Kd.C_below hr0 (below_step q15 b17)
  refine (impl_areBornOn.calls k A0 c0 l0 a1_0 a1_1 r18 _ f20 hc0 a19).mono ?_
  rintro _ w21 ⟨rfl, b22⟩
  refine ⟨_, _, rfl, (Sg.ps rfl), (below_step b17 b22), ?_⟩
  refine Sg.dv (i := 3) (hy := fun _ => (Sg.Xnt (b := r18))) (h := ?_)
  refine Sg.dv (i := 4) (hy := fun _ => (Sg.Xmv (v := .bool (!r18)))) (h := ?_)
  cases r18
  ·skip
   rw [if_neg (show ¬ (false = true) by decide)] at H
   refine Sg.doff (i := 5) (hg := rfl) (hw := Sg.yl (d := 12) rfl rfl rfl) (hb := rfl) (h := ?_)
   refine Sg.doff (i := 6) (hg := rfl) (hw := Sg.yl (d := 12) rfl rfl rfl) (hb := rfl) (h := ?_)
   refine Sg.doff (i := 7) (hg := rfl) (hw := Sg.yl (d := 12) rfl rfl rfl) (hb := rfl) (h := ?_)
   refine Sg.dv (i := 8) (hy := fun _ => (Sg.Xpk (v := .bool true))) (h := ?_)
   refine Sg.dv (i := 9) (hy := fun _ => (Sg.Xmv (v := .bool true))) (h := ?_)
   refine Sg.doff (i := 10) (hg := rfl) (hw := Sg.yl (d := 17) rfl rfl rfl) (hb := rfl) (h := ?_)
   refine Sg.doff (i := 12) (hg := rfl) (hw := Sg.yl (d := 17) rfl rfl rfl) (hb := rfl) (h := ?_)
   refine Sg.doff (i := 11) (hg := rfl) (hw := Sg.yl (d := 17) rfl rfl rfl) (hb := rfl) (h := ?_)
   refine Sg.doff (i := 13) (hg := rfl) (hw := Sg.yl (d := 17) rfl rfl rfl) (hb := rfl) (h := ?_)
   refine Sg.doff (i := 14) (hg := rfl) (hw := Sg.yl (d := 17) rfl rfl rfl) (hb := rfl) (h := ?_)
   refine Sg.dv (i := 15) (hy := fun _ => (Sg.Xpk (v := .bool true))) (h := ?_)
   first | refine Sg.dend (h := ?_) | refine Sg.dend1 (h := ?_)
   refine Sg.ct rfl rfl ?_
   refine Sg.sq ?_
   refine Sg.rg ?_
   refine Sg.asg (v := .int .i64 0) (h := ?_)
   refine Sg.asg (v := .bool false) (h := ?_)
   first | refine Sg.nl ?_ | refine Sg.nl1 ?_
   obtain ⟨k23, rfl⟩ : ∃ q, k = q + 1 := by cases k with | zero => exact absurd H (by simp [impl_BirthdaysBetween.j0]) | succ q => exact ⟨q, rfl⟩
   rw [impl_BirthdaysBetween.j0] at H
   rw [if_pos (show true = true by decide)] at H
   first | (simp only [Option.some.injEq, Prod.mk.injEq] at H) | skip
   obtain ⟨rfl, rfl⟩ := H
   first | refine Sg.rt0 ?_ | refine Sg.rt ?_
   exact hQ _ _ _ _ _ rfl rfl ⟨rfl, (below_step (below_step q15 b17) b22)⟩
  ·skip
   rw [if_pos (show true = true by decide)] at H
   refine Sg.dt (i := 5) (hb := below_step b17 b22) (hy := fun w_ b_ => (Sg.Xldr (hu := Try.underlying26) (hd := rfl) (hi := by kernel_rfl) (hg := blk_below x10 b_ ))) (hw := Sg.wy (d := 12) rfl rfl rfl) (h := ?_)
   refine Sg.dc (i := 6) (args := #[.agg #[.int .i64 a2_0, .int .i64 a2_1]]) (hop := rfl) (hf := Try.func32) (hw := Sg.wy (d := 12) rfl rfl rfl) (hargs := Sg.a1 (Sg.rs rfl rfl)) (h := ?_)
   obtain ⟨r24, a25, H⟩ := Option.bind_eq_some_iff.1 H
   try dsimp only at H
   refine (impl_IsDate.calls a2_0 a2_1 r24 _ a25).mono ?_
   rintro _ w26 ⟨rfl, b27⟩
   refine ⟨_, _, rfl, (Sg.ps rfl), (below_step (below_step b17 b22) b27), ?_⟩
   refine Sg.dv (i := 7) (hy := fun _ => (Sg.Xnt (b := r24))) (hw := Sg.wy (d := 12) rfl rfl rfl) (h := ?_)
   refine Sg.dv (i := 8) (hy := fun _ => (Sg.Xpk (v := .bool (!r24)))) (h := ?_)
   refine Sg.dv (i := 9) (hy := fun _ => (Sg.Xmv (v := .bool (!r24)))) (h := ?_)
   cases r24
   ·skip
    rw [if_neg (show ¬ (false = true) by decide)] at H
    refine Sg.doff (i := 10) (hg := rfl) (hw := Sg.yl (d := 17) rfl rfl rfl) (hb := rfl) (h := ?_)
    refine Sg.doff (i := 12) (hg := rfl) (hw := Sg.yl (d := 17) rfl rfl rfl) (hb := rfl) (h := ?_)
    refine Sg.doff (i := 11) (hg := rfl) (hw := Sg.yl (d := 17) rfl rfl rfl) (hb := rfl) (h := ?_)
    refine Sg.doff (i := 13) (hg := rfl) (hw := Sg.yl (d := 17) rfl rfl rfl) (hb := rfl) (h := ?_)
    refine Sg.doff (i := 14) (hg := rfl) (hw := Sg.yl (d := 17) rfl rfl rfl) (hb := rfl) (h := ?_)
    refine Sg.dv (i := 15) (hy := fun _ => (Sg.Xpk (v := .bool true))) (h := ?_)
    first | refine Sg.dend (h := ?_) | refine Sg.dend1 (h := ?_)
    refine Sg.ct rfl rfl ?_
    refine Sg.sq ?_
    refine Sg.rg ?_
    refine Sg.asg (v := .int .i64 0) (h := ?_)
    refine Sg.asg (v := .bool false) (h := ?_)
    first | refine Sg.nl ?_ | refine Sg.nl1 ?_
    obtain ⟨k28, rfl⟩ : ∃ q, k = q + 1 := by cases k with | zero => exact absurd H (by simp [impl_BirthdaysBetween.j0]) | succ q => exact ⟨q, rfl⟩
    rw [impl_BirthdaysBetween.j0] at H
    rw [if_pos (show true = true by decide)] at H
    first | (simp only [Option.some.injEq, Prod.mk.injEq] at H) | skip
    obtain ⟨rfl, rfl⟩ := H
    first | refine Sg.rt0 ?_ | refine Sg.rt ?_
    exact hQ _ _ _ _ _ rfl rfl ⟨rfl, (below_step (below_step (below_step q15 b17) b22) b27)⟩
   ·skip
    rw [if_pos (show true = true by decide)] at H
    refine Sg.dt (i := 10) (hb := below_step (below_step b17 b22) b27) (hy := fun w_ b_ => (Sg.Xldr (hu := Try.underlying26) (hd := rfl) (hi := by kernel_rfl) (hg := blk_below x10 b_ ))) (hw := Sg.wy (d := 17) rfl rfl rfl) (h := ?_)
    refine Sg.dt (i := 12) (hb := below_step (below_step b17 b22) b27) (hy := fun w_ b_ => (Sg.Xldr (hu := Try.underlying26) (hd := rfl) (hi := by kernel_rfl) (hg := blk_below x13 b_ ))) (hw := Sg.wy (d := 17) rfl rfl rfl) (h := ?_)
    refine Sg.dc (i := 11) (args := #[.agg #[.int .i64 a2_0, .int .i64 a2_1]]) (hop := rfl) (hf := Try.func36) (hw := Sg.wy (d := 17) rfl rfl rfl) (hargs := Sg.a1 (Sg.rs rfl rfl)) (h := ?_)
    obtain ⟨r29, a30, H⟩ := Option.bind_eq_some_iff.1 H
    try dsimp only at H
    refine (impl_Date_index.calls a2_0 a2_1 r29 _ a30).mono ?_
    rintro _ w31 ⟨rfl, b32⟩
    refine ⟨_, _, rfl, (Sg.ps rfl), (below_step (below_step (below_step b17 b22) b27) b32), ?_⟩
    refine Sg.dc (i := 13) (args := #[.agg #[.int .i64 a1_0, .int .i64 a1_1]]) (hop := rfl) (hf := Try.func36) (hw := Sg.wy (d := 17) rfl rfl rfl) (hargs := Sg.a1 (Sg.rs rfl rfl)) (h := ?_)
    obtain ⟨r33, a34, H⟩ := Option.bind_eq_some_iff.1 H
    try dsimp only at H
    refine (impl_Date_index.calls a1_0 a1_1 r33 _ a34).mono ?_
    rintro _ w35 ⟨rfl, b36⟩
    refine ⟨_, _, rfl, (Sg.ps rfl), (below_step (below_step (below_step (below_step b17 b22) b27) b32) b36), ?_⟩
    refine Sg.dv (i := 14) (hy := fun _ => (Sg.Xbin (v3 := .bool (decide (r29 < r33))) (hv := Sg.Ilss (by simp)))) (hw := Sg.wy (d := 17) rfl rfl rfl) (h := ?_)
    refine Sg.dv (i := 15) (hy := fun _ => (Sg.Xpk (v := .bool (decide (r29 < r33))))) (h := ?_)
    first | refine Sg.dend (h := ?_) | refine Sg.dend1 (h := ?_)
    obtain ⟨k37, rfl⟩ : ∃ q, k = q + 1 := by cases k with | zero => exact absurd H (by simp [impl_BirthdaysBetween.j0]) | succ q => exact ⟨q, rfl⟩
    rw [impl_BirthdaysBetween.j0] at H
    by_cases c38 : r29 < r33
    ·skip
     rw [if_pos (decide_eq_true c38)] at H
     have e39 : decide (r29 < r33) = true := decide_eq_true (by omega)
     refine Sg.ct rfl ((show _ = Value.bool (decide (r29 < r33)) from rfl).trans (congrArg (fun b_ => Value.bool b_) e39)) ?_
     refine Sg.sq ?_
     refine Sg.rg ?_
     refine Sg.asg (v := .int .i64 0) (h := ?_)
     refine Sg.asg (v := .bool false) (h := ?_)
     first | refine Sg.nl ?_ | refine Sg.nl1 ?_
     first | (simp only [Option.some.injEq, Prod.mk.injEq] at H) | skip
     obtain ⟨rfl, rfl⟩ := H
     first | refine Sg.rt0 ?_ | refine Sg.rt ?_
     exact hQ _ _ _ _ _ rfl rfl ⟨rfl, (below_step (below_step (below_step (below_step (below_step q15 b17) b22) b27) b32) b36)⟩
    ·skip
     rw [if_neg (by simpa using c38)] at H
     have e40 : decide (r29 < r33) = false := decide_eq_false (by omega)
     refine Sg.cf rfl ((show _ = Value.bool (decide (r29 < r33)) from rfl).trans (congrArg (fun b_ => Value.bool b_) e40)) ?_
     first | refine Sg.sk ?_ | refine Sg.sk1 ?_
     refine Sg.sq ?_
     have f43 := blk_below x13 (below_step (below_step (below_step (below_step b17 b22) b27) b32) b36)
     have f44 := blk_below x10 (below_step (below_step (below_step (below_step b17 b22) b27) b32) b36)
     refine Sg.da (k := 13) (h := fun w41 b42 => ?_)
     refine Sg.dv (i := 0) (hy := fun _ => (Sg.Xmv (v := .slice A0 l0.length c0))) (h := ?_)
     refine Sg.dt (i := 1) (hb := b42) (hy := fun w_ b_ => (Sg.Xldr (hu := Try.underlying26) (hd := rfl) (hi := by kernel_rfl) (hg := blk_below f44 b_ ))) (h := ?_)
     refine Sg.dv (i := 5) (hy := fun _ => (Sg.Xmv (v := .slice A0 l0.length c0))) (h := ?_)
     refine Sg.dt (i := 6) (hb := b42) (hy := fun w_ b_ => (Sg.Xldr (hu := Try.underlying26) (hd := rfl) (hi := by kernel_rfl) (hg := blk_below f43 b_ ))) (h := ?_)
     refine Sg.dc (i := 2) (args := #[.agg #[.int .i64 a2_0, .int .i64 a2_1]]) (hop := rfl) (hf := Try.func36) (hargs := Sg.a1 (Sg.rs rfl rfl)) (h := ?_)
     obtain ⟨r45, a46, H⟩ := Option.bind_eq_some_iff.1 H
     try dsimp only at H
     refine (impl_Date_index.calls a2_0 a2_1 r45 _ a46).mono ?_
     rintro _ w47 ⟨rfl, b48⟩
     refine ⟨_, _, rfl, (Sg.ps rfl), (below_step b42 b48), ?_⟩
     refine Sg.dc (i := 3) (args := #[.slice A0 l0.length c0, .int .i64 r45]) (hop := rfl) (hf := Try.func43) (hargs := Sg.a2 (Sg.rs rfl rfl) (Sg.rs rfl rfl)) (h := ?_)
     obtain ⟨r49, a50, H⟩ := Option.bind_eq_some_iff.1 H
     try dsimp only at H
     have f51 := Kd.C_below f20 (below_step (below_step (below_step (below_step (below_step b22 b27) b32) b36) b42) b48)
     refine (impl_agesOn.calls k37 A0 c0 l0 r45 r49 _ f51 hc0 a50).mono ?_
     rintro _ w52 ⟨v54, rfl, h55, b53⟩
     obtain ⟨A56, c57, rfl⟩ := Kd.R_slice h55
     have f58 := (Kd.R_reads' h55).2.2
     have f59 := (Kd.R_reads' h55).2.1
     refine ⟨_, _, rfl, (Sg.ps rfl), (below_step (below_step b42 b48) b53), ?_⟩
     refine Sg.dc (i := 4) (args := #[.slice A56 r49.length c57]) (hop := rfl) (hf := Try.func45) (hargs := Sg.a1 (Sg.rs rfl rfl)) (h := ?_)
     obtain ⟨r60, a61, H⟩ := Option.bind_eq_some_iff.1 H
     try dsimp only at H
     refine (impl_total.calls k37 A56 c57 r49 r60 _ f58 f59 a61).mono ?_
     rintro _ w62 ⟨rfl, d64⟩
     have b63 := d64.below
     refine ⟨_, _, rfl, (Sg.ps rfl), (below_step (below_step (below_step b42 b48) b53) b63), ?_⟩
     refine Sg.dc (i := 7) (args := #[.agg #[.int .i64 a1_0, .int .i64 a1_1]]) (hop := rfl) (hf := Try.func36) (hargs := Sg.a1 (Sg.rs rfl rfl)) (h := ?_)
     obtain ⟨r65, a66, H⟩ := Option.bind_eq_some_iff.1 H
     try dsimp only at H
     refine (impl_Date_index.calls a1_0 a1_1 r65 _ a66).mono ?_
     rintro _ w67 ⟨rfl, b68⟩
     refine ⟨_, _, rfl, (Sg.ps rfl), (below_step (below_step (below_step (below_step b42 b48) b53) b63) b68), ?_⟩
     refine Sg.dc (i := 8) (args := #[.slice A0 l0.length c0, .int .i64 r65]) (hop := rfl) (hf := Try.func43) (hargs := Sg.a2 (Sg.rs rfl rfl) (Sg.rs rfl rfl)) (h := ?_)
     obtain ⟨r69, a70, H⟩ := Option.bind_eq_some_iff.1 H
     try dsimp only at H
     have f71 := Kd.C_below f51 (below_step (below_step b53 b63) b68)
     refine (impl_agesOn.calls k37 A0 c0 l0 r65 r69 _ f71 hc0 a70).mono ?_
     rintro _ w72 ⟨v74, rfl, h75, b73⟩
     obtain ⟨A76, c77, rfl⟩ := Kd.R_slice h75
     have f78 := (Kd.R_reads' h75).2.2
     have f79 := (Kd.R_reads' h75).2.1
     refine ⟨_, _, rfl, (Sg.ps rfl), (below_step (below_step (below_step (below_step (below_step b42 b48) b53) b63) b68) b73), ?_⟩
     refine Sg.dc (i := 9) (args := #[.slice A76 r69.length c77]) (hop := rfl) (hf := Try.func45) (hargs := Sg.a1 (Sg.rs rfl rfl)) (h := ?_)
     obtain ⟨r80, a81, H⟩ := Option.bind_eq_some_iff.1 H
     try dsimp only at H
     refine (impl_total.calls k37 A76 c77 r69 r80 _ f78 f79 a81).mono ?_
     rintro _ w82 ⟨rfl, d84⟩
     have b83 := d84.below
     refine ⟨_, _, rfl, (Sg.ps rfl), (below_step (below_step (below_step (below_step (below_step (below_step b42 b48) b53) b63) b68) b73) b83), ?_⟩
     refine Sg.dv (i := 10) (hy := fun _ => (Sg.Xbin (v3 := .int .i64 (wrap64 (r60 - r80))) (hv := Sg.Isub rfl))) (h := ?_)
     refine Sg.dv (i := 11) (hy := fun _ => (Sg.Xasg (v := .int .i64 (wrap64 (r60 - r80))))) (h := ?_)
     refine Sg.dv (i := 12) (hy := fun _ => (Sg.Xasg (v := .bool true))) (h := ?_)
     first | refine Sg.dend (h := ?_) | refine Sg.dend1 (h := ?_)
     first | (simp only [Option.some.injEq, Prod.mk.injEq] at H) | skip
     obtain ⟨rfl, rfl⟩ := H
     first | refine Sg.rt0 ?_ | refine Sg.rt ?_
     exact hQ _ _ _ _ _ rfl rfl ⟨rfl, (below_step (below_step (below_step (below_step (below_step (below_step (below_step (below_step (below_step (below_step (below_step (below_step q15 b17) b22) b27) b32) b36) b42) b48) b53) b63) b68) b73) b83)⟩

/-! ### impl_DaysApart: function 19 -/
def impl_DaysApart.j0 : Nat → Bool → Int → Int → Int → Int → Option (Int × Bool)
  | 0, _, _, _, _, _ => none
  | k + 1, x14, x383000, x383001, x384000, x384001 => if x14 = true then (some (0, false)) else ((impl_Date_index.f x383000 x383001).bind fun t386 => ((impl_Date_index.f x384000 x384001).bind fun t387 => (some (mx (wrap64 (t386 - t387)) (wrap64 (-(wrap64 (t386 - t387)))), true))))
def impl_DaysApart.f (k : Nat) (a0_0 : Int) (a0_1 : Int) (a1_0 : Int) (a1_1 : Int) : Option (Int × Bool) := (impl_IsDate.f a0_0 a0_1).bind fun t384 => (if t384 = true then ((impl_IsDate.f a1_0 a1_1).bind fun t385 => (impl_DaysApart.j0 k (!t385) a0_0 a0_1 a1_0 a1_1)) else (impl_DaysApart.j0 k true a0_0 a0_1 a1_0 a1_1))
theorem impl_DaysApart.mono_l : ∀ k, (∀ y0 y1 y2 y3 y4, LeO (impl_DaysApart.j0 k y0 y1 y2 y3 y4) (impl_DaysApart.j0 (k + 1) y0 y1 y2 y3 y4))
  | 0 => fun _ _ _ _ _ r h => by simp [impl_DaysApart.j0] at h
  | k + 1 => by
    have ih0 := impl_DaysApart.mono_l k
    · intro y0 y1 y2 y3 y4
      unfold impl_DaysApart.j0
      repeat' first
      | (with_reducible exact ih0 _ _ _ _ _)
      | (with_reducible exact LeO.refl _)
      | (with_reducible exact LeO.none _)
      | (with_reducible refine LeO.ite ?_ ?_)
      | (with_reducible refine LeO.bind ?_ (fun _ => ?_))
      | exact ih0 _ _ _ _ _
      | exact LeO.none _
      | refine LeO.ite ?_ ?_
      | refine LeO.bind ?_ (fun _ => ?_)
theorem impl_DaysApart.mono : ∀ a0 a1 a2 a3 k, LeO (impl_DaysApart.f k a0 a1 a2 a3) (impl_DaysApart.f (k + 1) a0 a1 a2 a3) := by
  intro a0 a1 a2 a3 k
  have ih0 := impl_DaysApart.mono_l k
  unfold impl_DaysApart.f
  repeat' first
      | (with_reducible exact ih0 _ _ _ _ _)
      | (with_reducible exact LeO.refl _)
      | (with_reducible exact LeO.none _)
      | (with_reducible refine LeO.ite ?_ ?_)
      | (with_reducible refine LeO.bind ?_ (fun _ => ?_))
      | exact ih0 _ _ _ _ _
      | exact LeO.none _
      | refine LeO.ite ?_ ?_
      | refine LeO.bind ?_ (fun _ => ?_)
set_option maxHeartbeats 8000000 in
set_option maxRecDepth 100000 in
theorem impl_DaysApart.calls (k : Nat) (a0_0 : Int) (a0_1 : Int) (a1_0 : Int) (a1_1 : Int) (r1 : Int) (r2 : Bool) (w : World) (h : impl_DaysApart.f k a0_0 a0_1 a1_0 a1_1 = some (r1, r2)) :
    Calls Try.prog 19 #[.agg #[.int .i64 a0_0, .int .i64 a0_1], .agg #[.int .i64 a1_0, .int .i64 a1_1]] w fun e w' => e = .returned (.tuple #[.int .i64 r1, .bool r2]) ∧ Below w.heap.size w w' := by
  have hu26 := Try.underlying26
  have HB := am (Below.refl w.heap.size w)
  have H : ((impl_IsDate.f a0_0 a0_1).bind fun t384 => (if t384 = true then ((impl_IsDate.f a1_0 a1_1).bind fun t385 => (impl_DaysApart.j0 k (!t385) a0_0 a0_1 a1_0 a1_1)) else (impl_DaysApart.j0 k true a0_0 a0_1 a1_0 a1_1))) = some (r1, r2) := h
  clear h
  have HC3 := am H
  clear H
  go_enter Try.func19, Try.ntmps19
  go_upto_region 1 with (first | ((with_reducible refine gate_dst (N := 2) rfl ?_); refine gX 2 #[.int .i64 a0_0, .int .i64 a0_1] 26 ?_; intro gb382 hg w4 hbox hb; have n0_ := am (below_step (bY HB.out) hb); have n1_ := am (hbox); have n2_ := am (gZ hg (bY HB.out)); have n3_ := am (gZ hg (bY HB.out)); clear HB; have HB := n0_; have BK382 := n1_; have GW382 := n2_; have GE382 := n3_; clear n0_ n1_ n2_ n3_; clear hb hbox hg) | ((with_reducible refine gate_dst (N := 3) rfl ?_); refine gX 3 #[.int .i64 a1_0, .int .i64 a1_1] 26 ?_; intro gb383 hg w5 hbox hb; have n0_ := am (blk_below (bQ BK382.out) hb); have n1_ := am (below_step (bT HB.out) hb); have n2_ := am (hbox); have n3_ := am (gZ hg (bT HB.out)); have n4_ := am (gZ hg (bT HB.out)); have n5_ := am (gL hg (bQ BK382.out)); have n6_ := am (gG hg (bQ BK382.out)); clear BK382; clear HB; have BK382 := n0_; have HB := n1_; have BK383 := n2_; have GW383 := n3_; have GE383 := n4_; have NB382_383 := n5_; have NB383_382 := n6_; clear n0_ n1_ n2_ n3_ n4_ n5_ n6_; clear hb hbox hg))
  (try simp only [Act.put, List.setIfInBounds_toArray, List.set_cons_zero, List.set_cons_succ])
  go_cut [14] (fun v14 wc => ∃ (kq : Nat) (x14_2 : Bool), v14 = .bool x14_2 ∧ Aside0 (impl_DaysApart.j0 kq x14_2 a0_0 a0_1 a1_0 a1_1 = some (r1, r2)) ∧ Aside0 (kq ≤ k) ∧ Aside0 (wc.heap[gb382]? = some (.cells #[.int .i64 a0_0, .int .i64 a0_1] 26 (0, 0))) ∧ Aside0 (wc.heap[gb383]? = some (.cells #[.int .i64 a1_0, .int .i64 a1_1] 26 (0, 0))) ∧ Aside0 (Below w.heap.size w wc))
  case first =>
    have H := HC3.out
    clear HC3
    replace H := Option.bind_eq_some_iff.mp H
    obtain ⟨t384, A60, H⟩ := H
    replace H : (if t384 = true then ((impl_IsDate.f a1_0 a1_1).bind fun t385 => (impl_DaysApart.j0 k (!t385) a0_0 a0_1 a1_0 a1_1)) else (impl_DaysApart.j0 k true a0_0 a0_1 a1_0 a1_1)) = some (r1, r2) := H
    have A6 := am A60
    clear A60
    by_cases c7 : t384 = true
    · subst c7
      have H1 : ((impl_IsDate.f a1_0 a1_1).bind fun t385 => (impl_DaysApart.j0 k (!t385) a0_0 a0_1 a1_0 a1_1)) = some (r1, r2) := by first | (rw [if_pos rfl] at H; exact H) | rfl
      clear H
      have H := H1
      clear H1
      replace H := Option.bind_eq_some_iff.mp H
      obtain ⟨t385, A80, H⟩ := H
      replace H : (impl_DaysApart.j0 k (!t385) a0_0 a0_1 a1_0 a1_1) = some (r1, r2) := H
      have A8 := am A80
      clear A80
      have H' := am H
      clear H
      have hnb9 := NB382_383.out
      have hnc9 := NB383_382.out
      have hcz10_0 : w5.cell? ⟨gb382, 0, none⟩ = some (.int .i64 a0_0) := (blk_cell BK382.out 0).trans rfl
      have hcz10_1 : w5.cell? ⟨gb382, 1, none⟩ = some (.int .i64 a0_1) := (blk_cell BK382.out 1).trans rfl
      have hfz10_0 := blk_frozen BK382.out 0
      have hfz10_1 := blk_frozen BK382.out 1
      go_wp2_with (first | ((with_reducible refine gate_callee (f := 32) rfl ?_); refine gC (some 8) Try.func32 #[.agg #[.int .i64 a0_0, .int .i64 a0_1]] ?_; (with_reducible refine (impl_IsDate.calls a0_0 a0_1 true _ A6.out).mono ?_); rintro e w11 ⟨rfl, hb⟩; refine ⟨_, rfl, ?_⟩; have n0_ := am (blk_below (bQ BK382.out) hb); have n1_ := am (blk_below (bQ BK383.out) hb); have n2_ := am (below_step (bT HB.out) hb); clear BK382; clear BK383; clear HB; have BK382 := n0_; have BK383 := n1_; have HB := n2_; clear n0_ n1_ n2_; (try clear hb); (try clear hb2); (try clear hk); (try clear hi); have hcz12_0 : w11.cell? ⟨gb383, 0, none⟩ = some (.int .i64 a1_0) := (blk_cell BK383.out 0).trans rfl; have hcz12_1 : w11.cell? ⟨gb383, 1, none⟩ = some (.int .i64 a1_1) := (blk_cell BK383.out 1).trans rfl; have hfz12_0 := blk_frozen BK383.out 0; have hfz12_1 := blk_frozen BK383.out 1) | (go_at_call 32; (with_reducible refine (impl_IsDate.calls a1_0 a1_1 t385 _ A8.out).mono ?_); rintro e w13 ⟨rfl, hb⟩; have n0_ := am (blk_below (bQ BK382.out) hb); have n1_ := am (blk_below (bQ BK383.out) hb); have n2_ := am (below_step (bT HB.out) hb); clear BK382; clear BK383; clear HB; have BK382 := n0_; have BK383 := n1_; have HB := n2_; clear n0_ n1_ n2_; (try clear hb); (try clear hb2); (try clear hk); (try clear hi)))
      go_meet
      case rel => exact ⟨_, (!t385), (by first | rfl | (simp; done) | (simp [*]; done)), H', ⟨by first | omega | exact Nat.le_refl _⟩, ⟨by (with_reducible repeat (first | refine blk_drewN ?_ _ | refine blk_drew ?_ | refine blk_alloc ?_ _)); exact BK382.out⟩, ⟨by (with_reducible repeat (first | refine blk_drewN ?_ _ | refine blk_drew ?_ | refine blk_alloc ?_ _)); exact BK383.out⟩, ⟨by exact bT HB.out⟩⟩
    · replace c7 := Bool.eq_false_iff.mpr c7
      subst c7
      have H1 : (impl_DaysApart.j0 k true a0_0 a0_1 a1_0 a1_1) = some (r1, r2) := by first | (rw [if_neg (show ¬ (false = true) by decide)] at H; exact H) | rfl
      clear H
      have H := H1
      clear H1
      have H' := am H
      clear H
      have hnb14 := NB382_383.out
      have hnc14 := NB383_382.out
      have hcz15_0 : w5.cell? ⟨gb382, 0, none⟩ = some (.int .i64 a0_0) := (blk_cell BK382.out 0).trans rfl
      have hcz15_1 : w5.cell? ⟨gb382, 1, none⟩ = some (.int .i64 a0_1) := (blk_cell BK382.out 1).trans rfl
      have hfz15_0 := blk_frozen BK382.out 0
      have hfz15_1 := blk_frozen BK382.out 1
      go_wp2_with (first | ((with_reducible refine gate_callee (f := 32) rfl ?_); refine gC (some 8) Try.func32 #[.agg #[.int .i64 a0_0, .int .i64 a0_1]] ?_; (with_reducible refine (impl_IsDate.calls a0_0 a0_1 false _ A6.out).mono ?_); rintro e w16 ⟨rfl, hb⟩; refine ⟨_, rfl, ?_⟩; have n0_ := am (blk_below (bQ BK382.out) hb); have n1_ := am (blk_below (bQ BK383.out) hb); have n2_ := am (below_step (bT HB.out) hb); clear BK382; clear BK383; clear HB; have BK382 := n0_; have BK383 := n1_; have HB := n2_; clear n0_ n1_ n2_; (try clear hb); (try clear hb2); (try clear hk); (try clear hi)))
      go_meet
      case rel => exact ⟨_, (true), (by first | rfl | (simp; done) | (simp [*]; done)), H', ⟨by first | omega | exact Nat.le_refl _⟩, ⟨by (with_reducible repeat (first | refine blk_drewN ?_ _ | refine blk_drew ?_ | refine blk_alloc ?_ _)); exact BK382.out⟩, ⟨by (with_reducible repeat (first | refine blk_drewN ?_ _ | refine blk_drew ?_ | refine blk_alloc ?_ _)); exact BK383.out⟩, ⟨by exact bT HB.out⟩⟩
  case rest =>
    clear HC3
    try clear c1
    try clear p2
    try clear c3
    try clear c7
    try clear c9
    try clear c14
    try clear hcz10_0
    try clear hcz10_1
    try clear hcz12_0
    try clear hcz12_1
    try clear hcz15_0
    try clear hcz15_1
    try clear hfz10_0
    try clear hfz10_1
    try clear hfz12_0
    try clear hfz12_1
    try clear hfz15_0
    try clear hfz15_1
    obtain ⟨kq, x14_2, rfl, HA, HJ2, BK382, BK383, HB⟩ := hcut
    cases kq with
    | zero => exact absurd HA.out (by simp [impl_DaysApart.j0])
    | succ kj2 =>
      have H := HA.out
      clear HA
      simp only [impl_DaysApart.j0] at H
      by_cases c17 : x14_2 = true
      · subst c17
        have H1 : (some (0, false)) = some (r1, r2) := by first | (rw [if_pos rfl] at H; exact H) | rfl
        clear H
        have H := H1
        clear H1
        simp only [Option.some.injEq, Prod.mk.injEq] at H
        obtain ⟨rfl, rfl⟩ := H
        go_wp2
        go_ret2
        exact ⟨by first | rfl | (simp [errW_none, errW_some] <;> rfl) | (simp [*, errW_none, errW_some] <;> rfl), by exact bT HB.out⟩
      · replace c17 := Bool.eq_false_iff.mpr c17
        subst c17
        have H1 : ((impl_Date_index.f a0_0 a0_1).bind fun t386 => ((impl_Date_index.f a1_0 a1_1).bind fun t387 => (some (mx (wrap64 (t386 - t387)) (wrap64 (-(wrap64 (t386 - t387)))), true)))) = some (r1, r2) := by first | (rw [if_neg (show ¬ (false = true) by decide)] at H; exact H) | rfl
        clear H
        have H := H1
        clear H1
        replace H := Option.bind_eq_some_iff.mp H
        obtain ⟨t386, A180, H⟩ := H
        replace H : ((impl_Date_index.f a1_0 a1_1).bind fun t387 => (some (mx (wrap64 (t386 - t387)) (wrap64 (-(wrap64 (t386 - t387)))), true))) = some (r1, r2) := H
        have A18 := am A180
        clear A180
        replace H := Option.bind_eq_some_iff.mp H
        obtain ⟨t387, A190, H⟩ := H
        replace H : (some (mx (wrap64 (t386 - t387)) (wrap64 (-(wrap64 (t386 - t387)))), true)) = some (r1, r2) := H
        have A19 := am A190
        clear A190
        obtain ⟨ji20, hji20⟩ : ∃ j_ : Int, (mx (wrap64 (t386 - t387)) (wrap64 (-(wrap64 (t386 - t387))))) = j_ := ⟨_, rfl⟩
        replace H : (some (ji20, true)) = some (r1, r2) := by first | (rw [hji20] at H; exact H) | (simp only [hji20] at H ⊢; exact H)
        (try rw [hji20] at A18)
        (try rw [hji20] at A19)
        have hji20_ : (if (wrap64 (t386 - t387)) < (wrap64 (-(wrap64 (t386 - t387)))) then (wrap64 (-(wrap64 (t386 - t387)))) else (wrap64 (t386 - t387))) = ji20 := hji20
        simp only [Option.some.injEq, Prod.mk.injEq] at H
        obtain ⟨rfl, rfl⟩ := H
        try go_wp2
        have n0_ := am (blk_drew BK382.out)
        have n1_ := am (blk_drew BK383.out)
        have n2_ := am (below_drew1 HB.out)
        clear BK382
        clear BK383
        clear HB
        have BK382 := n0_
        have BK383 := n1_
        have HB := n2_
        clear n0_ n1_ n2_
        refine start_ (n := 6) (S := fun w' => w'.cell? ⟨gb382, 0, none⟩ = some (.int .i64 a0_0) ∧ w'.cell? ⟨gb382, 1, none⟩ = some (.int .i64 a0_1) ∧ w'.cell? ⟨gb383, 0, none⟩ = some (.int .i64 a1_0) ∧ w'.cell? ⟨gb383, 1, none⟩ = some (.int .i64 a1_1)) (ds := []) #[false, false, false, false, false, false] (by kernel_rfl) rfl rfl ⟨(blk_cell BK382.out 0).trans rfl, (blk_cell BK382.out 1).trans rfl, (blk_cell BK383.out 0).trans rfl, (blk_cell BK383.out 1).trans rfl⟩ (fun hHeld => ?_)
        generalize wc.drew = w21 at BK382 BK383 HB hHeld ⊢
        refine take_ (i := 0) (N := some 15) (v := ?_) (a' := ?_) #[true, false, false, false, false, false] rfl rfl (by kernel_rfl) (fun _ _ _ h => h) (Or.inl ⟨by rfl, ?_⟩) hHeld ?_ ?_
        rotate_left
        · rintro w' ⟨s0, s1, s2, s3⟩
          go_simp
          with_reducible rfl
        rotate_left
        · simp only [Act.put, List.setIfInBounds_toArray, List.set_cons_zero, List.set_cons_succ, i64_w, i32_w]
          rfl
        refine take_ (i := 2) (N := some 17) (v := ?_) (a' := ?_) #[true, false, true, false, false, false] rfl rfl (by kernel_rfl) (fun _ _ _ h => h) (Or.inl ⟨by rfl, ?_⟩) hHeld ?_ ?_
        rotate_left
        · rintro w' ⟨s0, s1, s2, s3⟩
          go_simp
          with_reducible rfl
        rotate_left
        · simp only [Act.put, List.setIfInBounds_toArray, List.set_cons_zero, List.set_cons_succ, i64_w, i32_w]
          rfl
        refine one_ (i := 1) (N := some 16) #[true, true, true, false, false, false] rfl rfl (by kernel_rfl) (by decide) (fun K hK => ?_)
        refine goes_ Try.func36 (by kernel_rfl) rfl #[.agg #[.int .i64 a0_0, .int .i64 a0_1]] (by rfl) rfl rfl (by (try simp only [List.map_toArray, List.map_cons, List.map_nil]); first | done | rfl | (simp only [List.length_drop, List.length_take]; rfl)) ?_
        with_reducible refine (impl_Date_index.calls a0_0 a0_1 t386 _ A18.out).mono ?_
        rintro e w22 ⟨rfl, hb⟩
        refine ⟨_, rfl, ?_⟩
        have n0_ := am (blk_below (bQ BK382.out) hb)
        have n1_ := am (blk_below (bQ BK383.out) hb)
        have n2_ := am (below_step (bT HB.out) hb)
        clear BK382
        clear BK383
        clear HB
        have BK382 := n0_
        have BK383 := n1_
        have HB := n2_
        clear n0_ n1_ n2_
        (try clear hb)
        (try clear hb2)
        (try clear hk)
        (try clear hi)
        refine hK.out _ _ ⟨(blk_cell BK382.out 0).trans rfl, (blk_cell BK382.out 1).trans rfl, (blk_cell BK383.out 0).trans rfl, (blk_cell BK383.out 1).trans rfl⟩ (fun hHeld => ?_)
        clear hK K
        refine norm_ (a' := ?_) ?_ ?_
        rotate_left
        · show Act.put _ (some 16) _ = _
          simp only [Act.put, List.setIfInBounds_toArray, List.set_cons_zero, List.set_cons_succ, i64_w, i32_w]
          rfl
        refine one_ (i := 3) (N := some 18) #[true, true, true, true, false, false] rfl rfl (by kernel_rfl) (by decide) (fun K hK => ?_)
        refine goes_ Try.func36 (by kernel_rfl) rfl #[.agg #[.int .i64 a1_0, .int .i64 a1_1]] (by rfl) rfl rfl (by (try simp only [List.map_toArray, List.map_cons, List.map_nil]); first | done | rfl | (simp only [List.length_drop, List.length_take]; rfl)) ?_
        with_reducible refine (impl_Date_index.calls a1_0 a1_1 t387 _ A19.out).mono ?_
        rintro e w23 ⟨rfl, hb⟩
        refine ⟨_, rfl, ?_⟩
        have n0_ := am (blk_below (bQ BK382.out) hb)
        have n1_ := am (blk_below (bQ BK383.out) hb)
        have n2_ := am (below_step (bT HB.out) hb)
        clear BK382
        clear BK383
        clear HB
        have BK382 := n0_
        have BK383 := n1_
        have HB := n2_
        clear n0_ n1_ n2_
        (try clear hb)
        (try clear hb2)
        (try clear hk)
        (try clear hi)
        refine hK.out _ _ ⟨(blk_cell BK382.out 0).trans rfl, (blk_cell BK382.out 1).trans rfl, (blk_cell BK383.out 0).trans rfl, (blk_cell BK383.out 1).trans rfl⟩ (fun hHeld => ?_)
        clear hK K
        refine norm_ (a' := ?_) ?_ ?_
        rotate_left
        · show Act.put _ (some 18) _ = _
          simp only [Act.put, List.setIfInBounds_toArray, List.set_cons_zero, List.set_cons_succ, i64_w, i32_w]
          rfl
        refine pure_ (i := 4) (N := some 19) (v := ?_) (a' := ?_) #[true, true, true, true, true, false] rfl rfl (by kernel_rfl) (fun _ _ _ h => h) (Or.inl ⟨by rfl, ?_⟩) ?_ ?_
        rotate_left
        · intro w'
          go_simp
          with_reducible rfl
        rotate_left
        · simp only [Act.put, List.setIfInBounds_toArray, List.set_cons_zero, List.set_cons_succ, i64_w, i32_w]
          rfl
        refine pure_ (i := 5) (N := some 6) (v := ?_) (a' := ?_) #[true, true, true, true, true, true] rfl rfl (by kernel_rfl) (fun _ _ _ h => h) (Or.inl ⟨by rfl, ?_⟩) ?_ ?_
        rotate_left
        · intro w'
          go_simp
          with_reducible rfl
        rotate_left
        · simp only [Act.put, List.setIfInBounds_toArray, List.set_cons_zero, List.set_cons_succ, i64_w, i32_w]
          rfl
        refine done_ (by kernel_rfl) ?_
        try go_wp2
        go_ret2
        exact ⟨by first | rfl | (simp [errW_none, errW_some] <;> rfl) | (simp only [← hji20]; first | rfl | (simp [errW_none, errW_some] <;> rfl)) | (simp [*, errW_none, errW_some] <;> rfl), by exact bT HB.out⟩

end Go.Proofs.Ytaabfjfdalcceaa.E
