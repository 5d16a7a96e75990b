-- WRITTEN by xprint.py, a program of this session that drives the kit's printer: out of the translation. Lean checks it.
import Derived.Test.YtaabfjfdalcceaaSig
import Derived.Test.YtaabfjfdalcceaaE0
import Derived.Test.YtaabfjfdalcceaaE6
import Derived.Test.YtaabfjfdalcceaaE8
import Derived.Test.YtaabfjfdalcceaaE16
import Derived.Test.YtaabfjfdalcceaaWMore
import Derived.Test.YtaabfjfdalcceaaWTab
namespace Go.Proofs.Ytaabfjfdalcceaa.E
open Go.RowKit Go.Proofs.YtaabfjfdalcceaaW.PrintWords Go.Proofs.YtaabfjfdalcceaaW.PrintLast Go.Proofs.YtaabfjfdalcceaaW.PrintMore
attribute [local go_sem] max2_int min2_int max_two min_two max_three min_three max_four min_four   -- for this text's walks alone
set_option linter.unusedVariables false
set_option linter.unusedSimpArgs false

/-! ### spec_DrawDaysApart: function 27 -/
def spec_DrawDaysApart.f (l0 : List Int) : Option (Int × Int × Int × Int) := (spec_DrawAgeOn.f l0).bind fun bt419 => (some (bt419.1, bt419.2.1, bt419.2.2.1, bt419.2.2.2))
set_option maxHeartbeats 8000000 in
set_option maxRecDepth 100000 in
theorem spec_DrawDaysApart.calls (A0 : Option Addr) (c0 : Nat) (l0 : List Int) (r1 : Int) (r2 : Int) (r3 : Int) (r4 : Int) (w : World) (hr0 : Kd.C (Kd.int .u8) w A0 l0.length l0) (hc0 : l0.length ≤ c0) (h : spec_DrawDaysApart.f l0 = some (r1, r2, r3, r4)) :
    Calls Try.prog 27 #[.slice A0 l0.length c0] w fun e w' => e = .returned (.tuple #[.agg #[.int .i64 r1, .int .i64 r2], .agg #[.int .i64 r3, .int .i64 r4]]) ∧ Below w.heap.size w w' := by
  have hu26 := Try.underlying26
  have HR0 := am hr0
  have HC0 := am hc0
  clear hr0 hc0
  have HB := am (Below.refl w.heap.size w)
  have H : ((spec_DrawAgeOn.f l0).bind fun bt419 => (some (bt419.1, bt419.2.1, bt419.2.2.1, bt419.2.2.2))) = some (r1, r2, r3, r4) := h
  clear h
  replace H := Option.bind_eq_some_iff.mp H
  obtain ⟨⟨t419, t420, t421, t422⟩, A20, H⟩ := H
  replace H : (some (t419, t420, t421, t422)) = some (r1, r2, r3, r4) := H
  have A2 := am A20
  clear A20
  simp only [Option.some.injEq, Prod.mk.injEq] at H
  obtain ⟨rfl, rfl, rfl, rfl⟩ := H
  go_enter Try.func27, Try.ntmps27
  go_wp2_with (first | ((with_reducible refine gate_dst (N := 2) rfl ?_); refine gX 2 #[.int .i64 0, .int .i64 0] 26 ?_; intro gb417 hg w3 hbox hb; have n0_ := am (below_step (bY HB.out) hb); have n1_ := am (hbox); have n2_ := am (gZ hg (bY HB.out)); have n3_ := am (gZ hg (bY HB.out)); clear HB; have HB := n0_; have BK417 := n1_; have GW417 := n2_; have GE417 := n3_; clear n0_ n1_ n2_ n3_; clear hb hbox hg) | ((with_reducible refine gate_dst (N := 3) rfl ?_); refine gX 3 #[.int .i64 0, .int .i64 0] 26 ?_; intro gb418 hg w4 hbox hb; have n0_ := am (blk_below (bQ BK417.out) hb); have n1_ := am (below_step (bT HB.out) hb); have n2_ := am (hbox); have n3_ := am (gZ hg (bT HB.out)); have n4_ := am (gZ hg (bT HB.out)); have n5_ := am (gL hg (bQ BK417.out)); have n6_ := am (gG hg (bQ BK417.out)); clear BK417; clear HB; have BK417 := n0_; have HB := n1_; have BK418 := n2_; have GW418 := n3_; have GE418 := n4_; have NB417_418 := n5_; have NB418_417 := n6_; clear n0_ n1_ n2_ n3_ n4_ n5_ n6_; clear hb hbox hg) | ((with_reducible refine gate_callee (f := 29) rfl ?_); refine gC (some 5) Try.func29 #[.slice A0 l0.length c0] ?_; (with_reducible refine (spec_DrawAgeOn.calls _ _ l0 t419 t420 t421 t422 _ ?side1 ?side2 A2.out).mono ?_); (case side1 => exact cY (Kd.C_below HR0.out HB.out)); (case side2 => exact HC0.out); rintro e w5 ⟨rfl, hb⟩; refine ⟨_, rfl, ?_⟩; have n0_ := am (blk_below (bQ BK417.out) hb); have n1_ := am (blk_below (bQ BK418.out) hb); have n2_ := am (below_step (bT HB.out) hb); clear BK417; clear BK418; clear HB; have BK417 := n0_; have BK418 := n1_; have HB := n2_; clear n0_ n1_ n2_; (try clear hb); (try clear hb2); (try clear hk); (try clear hi); have hnb6 := NB417_418.out; have hnc6 := NB418_417.out; have hcz7_0 : w5.cell? ⟨gb417, 0, none⟩ = some (.int .i64 0) := (blk_cell BK417.out 0).trans rfl; have hcz7_1 : w5.cell? ⟨gb417, 1, none⟩ = some (.int .i64 0) := (blk_cell BK417.out 1).trans rfl; have hfz7_0 := blk_frozen BK417.out 0; have hfz7_1 := blk_frozen BK417.out 1; have hcz8_0 : w5.cell? ⟨gb418, 0, none⟩ = some (.int .i64 0) := (blk_cell BK418.out 0).trans rfl; have hcz8_1 : w5.cell? ⟨gb418, 1, none⟩ = some (.int .i64 0) := (blk_cell BK418.out 1).trans rfl; have hfz8_0 := blk_frozen BK418.out 0; have hfz8_1 := blk_frozen BK418.out 1))
  refine bodyPost_ret (results_cc rfl _ _ gb417 gb418 26 26 #[.int .i64 t419, .int .i64 t420] #[.int .i64 t421, .int .i64 t422] (0, 0) (0, 0) _ _ rfl (by (with_reducible repeat (first | refine blk_drewN ?_ _ | refine blk_drew ?_ | refine blk_alloc ?_ _)); refine blk_far ?_ NB417_418.out _; (with_reducible repeat (first | refine blk_drewN ?_ _ | refine blk_drew ?_ | refine blk_alloc ?_ _)); refine blk_far ?_ NB417_418.out _; (with_reducible repeat (first | refine blk_drewN ?_ _ | refine blk_drew ?_ | refine blk_alloc ?_ _)); refine blk_put (cs := #[.int .i64 t419, .int .i64 0]) ?_ 1 _ rfl; (with_reducible repeat (first | refine blk_drewN ?_ _ | refine blk_drew ?_ | refine blk_alloc ?_ _)); refine blk_put (cs := #[.int .i64 0, .int .i64 0]) ?_ 0 _ rfl; (with_reducible repeat (first | refine blk_drewN ?_ _ | refine blk_drew ?_ | refine blk_alloc ?_ _)); exact BK417.out) Try.underlying26 rfl (by kernel_rfl) rfl (by (with_reducible repeat (first | refine blk_drewN ?_ _ | refine blk_drew ?_ | refine blk_alloc ?_ _)); refine blk_put (cs := #[.int .i64 t421, .int .i64 0]) ?_ 1 _ rfl; (with_reducible repeat (first | refine blk_drewN ?_ _ | refine blk_drew ?_ | refine blk_alloc ?_ _)); refine blk_put (cs := #[.int .i64 0, .int .i64 0]) ?_ 0 _ rfl; (with_reducible repeat (first | refine blk_drewN ?_ _ | refine blk_drew ?_ | refine blk_alloc ?_ _)); refine blk_far ?_ NB418_417.out _; (with_reducible repeat (first | refine blk_drewN ?_ _ | refine blk_drew ?_ | refine blk_alloc ?_ _)); refine blk_far ?_ NB418_417.out _; (with_reducible repeat (first | refine blk_drewN ?_ _ | refine blk_drew ?_ | refine blk_alloc ?_ _)); exact BK418.out) Try.underlying26 rfl (by kernel_rfl)) rfl ?_
  exact ⟨by first | rfl | (simp [errW_none, errW_some] <;> rfl) | (simp [*, errW_none, errW_some] <;> rfl), by exact bT HB.out⟩

/-! ### spec_l1Most: function 62 -/
def spec_l1Most.f (a0 : Int) (a1 : Int) : Option (Int) := if a0 > a1 then (some a0) else (some a1)
set_option maxHeartbeats 8000000 in
set_option maxRecDepth 100000 in
theorem spec_l1Most.calls (a0 : Int) (a1 : Int) (r : Int) (w : World) (h : spec_l1Most.f a0 a1 = some r) :
    Calls Try.prog 62 #[.int .i64 a0, .int .i64 a1] w fun e w' => e = .returned (.int .i64 r) ∧ Drawn0 w w' := by
  have H : (if a0 > a1 then (some a0) else (some a1)) = some r := h
  clear h
  by_cases c3 : a0 > a1
  · rw [if_pos c3] at H
    have c3b0 : decide (a1 < a0) = true := decide_eq_true c3
    clear c3
    obtain rfl := Option.some.inj H
    go_enter Try.func62, Try.ntmps62
    go_wp2
    go_ret
    exact ⟨by first | rfl | (simp; done) | (simp [*]; done), by repeat (first | exact Drawn0.refl _ | apply Drawn0.step)⟩
  · rw [if_neg c3] at H
    have c3b0 : decide (a1 < a0) = false := decide_eq_false c3
    clear c3
    obtain rfl := Option.some.inj H
    go_enter Try.func62, Try.ntmps62
    go_wp2
    go_ret
    exact ⟨by first | rfl | (simp; done) | (simp [*]; done), by repeat (first | exact Drawn0.refl _ | apply Drawn0.step)⟩

/-! ### spec_l1Abs: function 54 -/
def spec_l1Abs.f (a0 : Int) : Option (Int) := (spec_l1Most.f a0 (wrap64 (-a0))).bind fun t423 => (some t423)
set_option maxHeartbeats 8000000 in
set_option maxRecDepth 100000 in
theorem spec_l1Abs.calls (a0 : Int) (r : Int) (w : World) (h : spec_l1Abs.f a0 = some r) :
    Calls Try.prog 54 #[.int .i64 a0] w fun e w' => e = .returned (.int .i64 r) ∧ Drawn0 w w' := by
  have H : ((spec_l1Most.f a0 (wrap64 (-a0))).bind fun t423 => (some t423)) = some r := h
  clear h
  replace H := Option.bind_eq_some_iff.mp H
  obtain ⟨t423, A20, H⟩ := H
  replace H : (some t423) = some r := H
  have A2 := am A20
  clear A20
  obtain rfl := Option.some.inj H
  go_enter Try.func54, Try.ntmps54
  go_wp2_with (first | ((with_reducible refine gate_callee (f := 62) rfl ?_); refine gC (some 6) Try.func62 #[.int .i64 a0, .int .i64 (wrap64 (-a0))] ?_; (with_reducible refine (spec_l1Most.calls a0 (wrap64 (-a0)) t423 _ A2.out).mono ?_); rintro e w' ⟨rfl, ⟨nd, rfl⟩⟩; refine ⟨_, rfl, ?_⟩))
  go_ret
  exact ⟨by first | rfl | (simp; done) | (simp [*]; done), by repeat (first | exact Drawn0.refl _ | apply Drawn0.step)⟩

/-! ### spec_DaysApart: function 28 -/
def spec_DaysApart.j0 : Nat → Bool → Int → Int → Int → Int → Option (Int × Bool)
  | 0, _, _, _, _, _ => none
  | k + 1, x13, x425000, x425001, x426000, x426001 => if x13 = true then (some (0, false)) else ((spec_biDays.f x425000 x425001).bind fun t428 => ((spec_biDays.f x426000 x426001).bind fun t429 => ((spec_l1Abs.f (wrap64 (t428 - t429))).bind fun t430 => (some (t430, true)))))
def spec_DaysApart.f (k : Nat) (a0_0 : Int) (a0_1 : Int) (a1_0 : Int) (a1_1 : Int) : Option (Int × Bool) := (spec_biDate.f a0_0 a0_1).bind fun t426 => (if t426 = true then ((spec_biDate.f a1_0 a1_1).bind fun t427 => (spec_DaysApart.j0 k (!t427) a0_0 a0_1 a1_0 a1_1)) else (spec_DaysApart.j0 k true a0_0 a0_1 a1_0 a1_1))
theorem spec_DaysApart.mono_l : ∀ k, (∀ y0 y1 y2 y3 y4, LeO (spec_DaysApart.j0 k y0 y1 y2 y3 y4) (spec_DaysApart.j0 (k + 1) y0 y1 y2 y3 y4))
  | 0 => fun _ _ _ _ _ r h => by simp [spec_DaysApart.j0] at h
  | k + 1 => by
    have ih0 := spec_DaysApart.mono_l k
    · intro y0 y1 y2 y3 y4
      unfold spec_DaysApart.j0
      repeat' first
      | (with_reducible exact ih0 _ _ _ _ _)
      | (with_reducible exact LeO.refl _)
      | (with_reducible exact LeO.none _)
      | (with_reducible refine LeO.ite ?_ ?_)
      | (with_reducible refine LeO.bind ?_ (fun _ => ?_))
      | exact ih0 _ _ _ _ _
      | exact LeO.none _
      | refine LeO.ite ?_ ?_
      | refine LeO.bind ?_ (fun _ => ?_)
theorem spec_DaysApart.mono : ∀ a0 a1 a2 a3 k, LeO (spec_DaysApart.f k a0 a1 a2 a3) (spec_DaysApart.f (k + 1) a0 a1 a2 a3) := by
  intro a0 a1 a2 a3 k
  have ih0 := spec_DaysApart.mono_l k
  unfold spec_DaysApart.f
  repeat' first
      | (with_reducible exact ih0 _ _ _ _ _)
      | (with_reducible exact LeO.refl _)
      | (with_reducible exact LeO.none _)
      | (with_reducible refine LeO.ite ?_ ?_)
      | (with_reducible refine LeO.bind ?_ (fun _ => ?_))
      | exact ih0 _ _ _ _ _
      | exact LeO.none _
      | refine LeO.ite ?_ ?_
      | refine LeO.bind ?_ (fun _ => ?_)
def spec_DaysApart.T3 : Bool × List (List Nat × List Nat) := (true, [([], []), ([0], [0]), ([], []), ([2, 1], [2]), ([1, 3], [1, 3]), ([4, 3], [4]), ([5, 5, 0, 1, 2, 3, 4, 5], [5]), ([6, 0, 1, 2, 3, 4, 5, 6], [])])
def spec_DaysApart.B3 : List Nat := [0, 1, 0, 7, 15, 31, 63, 127]
theorem spec_DaysApart.tab3 : rtab .any (opsOf Try.f28 3) = spec_DaysApart.T3 := by kernel_rfl
theorem spec_DaysApart.bits3 : waitsOk spec_DaysApart.T3.2 spec_DaysApart.B3 = true := by kernel_rfl
set_option maxHeartbeats 8000000 in
set_option maxRecDepth 100000 in
set_option maxRecDepth 100000 in
set_option maxHeartbeats 4000000 in
theorem spec_DaysApart.calls (k : Nat) (a0_0 : Int) (a0_1 : Int) (a1_0 : Int) (a1_1 : Int) (r1 : Int) (r2 : Bool) (w : World) (h : spec_DaysApart.f k a0_0 a0_1 a1_0 a1_1 = some (r1, r2)) :
    Calls Try.prog 28 #[.agg #[.int .i64 a0_0, .int .i64 a0_1], .agg #[.int .i64 a1_0, .int .i64 a1_1]] w fun e w' => e = .returned (.tuple #[.int .i64 r1, .bool r2]) ∧ Below w.heap.size w w' := by
  have H := h
  clear h
  unfold spec_DaysApart.f at H
  refine Sg.fn2 (m := 6) Try.func28 rfl rfl rfl rfl rfl (fun Q hQp hQ => ?_)
  refine Sg.sq ?_
  refine Sg.rg ?_
  refine Sg.bx (cs := #[.int .i64 a0_0, .int .i64 a0_1]) (t0 := 26) (hs := Sg.rs rfl rfl) (hx := by first | (go_simp; done) | (go_simp; rfl)) (h := fun g1 w2 e3 x4 b5 => ⟨_, (Sg.pn rfl), ?_⟩)
  have l6 : w.heap.size ≤ g1 := Nat.le_of_eq e3.symm
  refine Sg.bx (cs := #[.int .i64 a1_0, .int .i64 a1_1]) (t0 := 26) (hs := Sg.rs rfl rfl) (hx := by first | (go_simp; done) | (go_simp; rfl)) (h := fun g7 w8 e9 x10 b11 => ⟨_, (Sg.pn rfl), ?_⟩)
  have l12 : w.heap.size ≤ g7 := by rw [e9]; exact b5.size
  have n14 : g1 ≠ g7 := by rw [e9]; exact Nat.ne_of_lt (blk_lt x4)
  have x13 := blk_below x4 b11
  have q15 := below_step b5 b11
  refine Sg.asg (v := .int .i64 0) (h := ?_)
  refine Sg.asg (v := .bool false) (h := ?_)
  first | refine Sg.nl ?_ | refine Sg.nl1 ?_
  refine Sg.sq ?_
  refine Sg.sq ?_
  refine Sg.rg ?_
  refine Sg.ldr (hu := Try.underlying26) (hd := rfl) (hi := by kernel_rfl) (hg := x13) (h := ?_)
  refine Sg.cl (args := #[.agg #[.int .i64 a0_0, .int .i64 a0_1]]) (hf := Try.func51) (hargs := Sg.a1 (Sg.rs rfl rfl)) (h := ?_)
  obtain ⟨r16, a17, H⟩ := Option.bind_eq_some_iff.1 H
  try dsimp only at H
  refine (spec_biDate.calls a0_0 a0_1 r16 _ a17).mono ?_
  rintro _ w18 ⟨rfl, b19⟩
  refine ⟨_, _, rfl, (Sg.ps rfl), ?_⟩
  refine Sg.nt (b := r16) (h := ?_)
  refine Sg.mv (v := .bool (!r16)) (h := ?_)
  cases r16
  ·skip
   rw [if_neg (show ¬ (false = true) by decide)] at H
   refine Sg.off (hw := Sg.yl (d := 9) rfl rfl rfl) (hb := rfl) (h := ?_)
   refine Sg.off (hw := Sg.yl (d := 9) rfl rfl rfl) (hb := rfl) (h := ?_)
   refine Sg.off (hw := Sg.yl (d := 9) rfl rfl rfl) (hb := rfl) (h := ?_)
   refine Sg.pk (v := .bool true) (h := ?_)
   first | refine Sg.nl ?_ | refine Sg.nl1 ?_
   refine Sg.ct rfl rfl ?_
   refine Sg.sq ?_
   refine Sg.rg ?_
   refine Sg.asg (v := .int .i64 0) (h := ?_)
   refine Sg.asg (v := .bool false) (h := ?_)
   first | refine Sg.nl ?_ | refine Sg.nl1 ?_
   obtain ⟨k20, rfl⟩ : ∃ q, k = q + 1 := by cases k with | zero => exact absurd H (by simp [spec_DaysApart.j0]) | succ q => exact ⟨q, rfl⟩
   rw [spec_DaysApart.j0] at H
   rw [if_pos (show true = true by decide)] at H
   first | (simp only [Option.some.injEq, Prod.mk.injEq] at H) | skip
   obtain ⟨rfl, rfl⟩ := H
   first | refine Sg.rt0 ?_ | refine Sg.rt ?_
   exact hQ _ _ _ _ _ rfl rfl ⟨rfl, (below_step q15 b19)⟩
  ·skip
   rw [if_pos (show true = true by decide)] at H
   have f21 := blk_below x10 b19
   refine Sg.ldr (hu := Try.underlying26) (hd := rfl) (hi := by kernel_rfl) (hg := f21) (hw := Sg.wy (d := 9) rfl rfl rfl) (h := ?_)
   refine Sg.cl (args := #[.agg #[.int .i64 a1_0, .int .i64 a1_1]]) (hf := Try.func51) (hw := Sg.wy (d := 9) rfl rfl rfl) (hargs := Sg.a1 (Sg.rs rfl rfl)) (h := ?_)
   obtain ⟨r22, a23, H⟩ := Option.bind_eq_some_iff.1 H
   try dsimp only at H
   refine (spec_biDate.calls a1_0 a1_1 r22 _ a23).mono ?_
   rintro _ w24 ⟨rfl, b25⟩
   refine ⟨_, _, rfl, (Sg.ps rfl), ?_⟩
   refine Sg.nt (b := r22) (hw := Sg.wy (d := 9) rfl rfl rfl) (h := ?_)
   refine Sg.pk (v := .bool (!r22)) (h := ?_)
   first | refine Sg.nl ?_ | refine Sg.nl1 ?_
   obtain ⟨k26, rfl⟩ : ∃ q, k = q + 1 := by cases k with | zero => exact absurd H (by simp [spec_DaysApart.j0]) | succ q => exact ⟨q, rfl⟩
   rw [spec_DaysApart.j0] at H
   cases r22
   ·skip
    rw [if_pos (show (!false) = true by decide)] at H
    refine Sg.ct rfl rfl ?_
    refine Sg.sq ?_
    refine Sg.rg ?_
    refine Sg.asg (v := .int .i64 0) (h := ?_)
    refine Sg.asg (v := .bool false) (h := ?_)
    first | refine Sg.nl ?_ | refine Sg.nl1 ?_
    first | (simp only [Option.some.injEq, Prod.mk.injEq] at H) | skip
    obtain ⟨rfl, rfl⟩ := H
    first | refine Sg.rt0 ?_ | refine Sg.rt ?_
    exact hQ _ _ _ _ _ rfl rfl ⟨rfl, (below_step (below_step q15 b19) b25)⟩
   ·skip
    rw [if_neg (show ¬ ((!true) = true) by decide)] at H
    refine Sg.cf rfl rfl ?_
    first | refine Sg.sk ?_ | refine Sg.sk1 ?_
    refine Sg.sq ?_
    have f29 := blk_below x13 (below_step b19 b25)
    have f30 := blk_below f21 b25
    refine Sg.da (k := 8) (h := fun w27 b28 => ?_)
    refine Sg.dt (i := 0) (hb := b28) (hy := fun w_ b_ => (Sg.Xldr (hu := Try.underlying26) (hd := rfl) (hi := by kernel_rfl) (hg := blk_below f29 b_ ))) (h := ?_)
    refine Sg.dt (i := 2) (hb := b28) (hy := fun w_ b_ => (Sg.Xldr (hu := Try.underlying26) (hd := rfl) (hi := by kernel_rfl) (hg := blk_below f30 b_ ))) (h := ?_)
    refine Sg.dc (i := 1) (args := #[.agg #[.int .i64 a0_0, .int .i64 a0_1]]) (hop := rfl) (hf := Try.func41) (hargs := Sg.a1 (Sg.rs rfl rfl)) (h := ?_)
    obtain ⟨r31, a32, H⟩ := Option.bind_eq_some_iff.1 H
    try dsimp only at H
    refine (spec_biDays.calls a0_0 a0_1 r31 _ a32).mono ?_
    rintro _ w33 ⟨rfl, b34⟩
    refine ⟨_, _, rfl, (Sg.ps rfl), (below_step b28 b34), ?_⟩
    refine Sg.dc (i := 3) (args := #[.agg #[.int .i64 a1_0, .int .i64 a1_1]]) (hop := rfl) (hf := Try.func41) (hargs := Sg.a1 (Sg.rs rfl rfl)) (h := ?_)
    obtain ⟨r35, a36, H⟩ := Option.bind_eq_some_iff.1 H
    try dsimp only at H
    refine (spec_biDays.calls a1_0 a1_1 r35 _ a36).mono ?_
    rintro _ w37 ⟨rfl, b38⟩
    refine ⟨_, _, rfl, (Sg.ps rfl), (below_step (below_step b28 b34) b38), ?_⟩
    refine Sg.dv (i := 4) (hy := fun _ => (Sg.Xbin (v3 := .int .i64 (wrap64 (r31 - r35))) (hv := Sg.Isub rfl))) (h := ?_)
    refine Sg.dc (i := 5) (args := #[.int .i64 (wrap64 (r31 - r35))]) (hop := rfl) (hf := Try.func54) (hargs := Sg.a1 (Sg.rs rfl rfl)) (h := ?_)
    obtain ⟨r39, a40, H⟩ := Option.bind_eq_some_iff.1 H
    try dsimp only at H
    refine (spec_l1Abs.calls (wrap64 (r31 - r35)) r39 _ a40).mono ?_
    rintro _ w41 ⟨rfl, d43⟩
    have b42 := d43.below
    refine ⟨_, _, rfl, (Sg.ps rfl), (below_step (below_step (below_step b28 b34) b38) b42), ?_⟩
    refine Sg.dv (i := 6) (hy := fun _ => (Sg.Xasg (v := .int .i64 r39))) (h := ?_)
    refine Sg.dv (i := 7) (hy := fun _ => (Sg.Xasg (v := .bool true))) (h := ?_)
    first | refine Sg.dend (h := ?_) | refine Sg.dend1 (h := ?_)
    first | (simp only [Option.some.injEq, Prod.mk.injEq] at H) | skip
    obtain ⟨rfl, rfl⟩ := H
    first | refine Sg.rt0 ?_ | refine Sg.rt ?_
    exact hQ _ _ _ _ _ rfl rfl ⟨rfl, (below_step (below_step (below_step (below_step (below_step (below_step q15 b19) b25) b28) b34) b38) b42)⟩

/-! ### spec_AgeOn: function 30 -/
def spec_AgeOn.f (a0_0 : Int) (a0_1 : Int) (a1_0 : Int) (a1_1 : Int) : Option (Int × Bool) := (spec_biBorn.f a0_0 a0_1 a1_0 a1_1).bind fun t433 => (if t433 = true then ((spec_biAge.f a0_0 a0_1 a1_0 a1_1).bind fun t434 => (some (t434, true))) else (some (0, false)))
set_option maxHeartbeats 8000000 in
set_option maxRecDepth 100000 in
set_option maxRecDepth 100000 in
set_option maxHeartbeats 4000000 in
theorem spec_AgeOn.calls (a0_0 : Int) (a0_1 : Int) (a1_0 : Int) (a1_1 : Int) (r1 : Int) (r2 : Bool) (w : World) (h : spec_AgeOn.f a0_0 a0_1 a1_0 a1_1 = some (r1, r2)) :
    Calls Try.prog 30 #[.agg #[.int .i64 a0_0, .int .i64 a0_1], .agg #[.int .i64 a1_0, .int .i64 a1_1]] w fun e w' => e = .returned (.tuple #[.int .i64 r1, .bool r2]) ∧ Below w.heap.size w w' := by
  have H := h
  clear h
  unfold spec_AgeOn.f at H
  refine Sg.fn2 (m := 6) Try.func30 rfl rfl rfl rfl rfl (fun Q hQp hQ => ?_)
  refine Sg.sq ?_
  refine Sg.rg ?_
  refine Sg.bx (cs := #[.int .i64 a0_0, .int .i64 a0_1]) (t0 := 26) (hs := Sg.rs rfl rfl) (hx := by first | (go_simp; done) | (go_simp; rfl)) (h := fun g1 w2 e3 x4 b5 => ⟨_, (Sg.pn rfl), ?_⟩)
  have l6 : w.heap.size ≤ g1 := Nat.le_of_eq e3.symm
  refine Sg.bx (cs := #[.int .i64 a1_0, .int .i64 a1_1]) (t0 := 26) (hs := Sg.rs rfl rfl) (hx := by first | (go_simp; done) | (go_simp; rfl)) (h := fun g7 w8 e9 x10 b11 => ⟨_, (Sg.pn rfl), ?_⟩)
  have l12 : w.heap.size ≤ g7 := by rw [e9]; exact b5.size
  have n14 : g1 ≠ g7 := by rw [e9]; exact Nat.ne_of_lt (blk_lt x4)
  have x13 := blk_below x4 b11
  have q15 := below_step b5 b11
  refine Sg.asg (v := .int .i64 0) (h := ?_)
  refine Sg.asg (v := .bool false) (h := ?_)
  first | refine Sg.nl ?_ | refine Sg.nl1 ?_
  refine Sg.sq ?_
  refine Sg.sq ?_
  refine Sg.rg ?_
  refine Sg.ldr (hu := Try.underlying26) (hd := rfl) (hi := by kernel_rfl) (hg := x13) (h := ?_)
  refine Sg.ldr (hu := Try.underlying26) (hd := rfl) (hi := by kernel_rfl) (hg := x10) (h := ?_)
  refine Sg.cl (args := #[.agg #[.int .i64 a0_0, .int .i64 a0_1], .agg #[.int .i64 a1_0, .int .i64 a1_1]]) (hf := Try.func56) (hargs := Sg.a2 (Sg.rs rfl rfl) (Sg.rs rfl rfl)) (h := ?_)
  obtain ⟨r16, a17, H⟩ := Option.bind_eq_some_iff.1 H
  try dsimp only at H
  refine (spec_biBorn.calls a0_0 a0_1 a1_0 a1_1 r16 _ a17).mono ?_
  rintro _ w18 ⟨rfl, b19⟩
  refine ⟨_, _, rfl, (Sg.ps rfl), ?_⟩
  refine Sg.nt (b := r16) (h := ?_)
  first | refine Sg.nl ?_ | refine Sg.nl1 ?_
  cases r16
  ·skip
   rw [if_neg (show ¬ (false = true) by decide)] at H
   refine Sg.ct rfl rfl ?_
   refine Sg.sq ?_
   refine Sg.rg ?_
   refine Sg.asg (v := .int .i64 0) (h := ?_)
   refine Sg.asg (v := .bool false) (h := ?_)
   first | refine Sg.nl ?_ | refine Sg.nl1 ?_
   first | (simp only [Option.some.injEq, Prod.mk.injEq] at H) | skip
   obtain ⟨rfl, rfl⟩ := H
   first | refine Sg.rt0 ?_ | refine Sg.rt ?_
   exact hQ _ _ _ _ _ rfl rfl ⟨rfl, (below_step q15 b19)⟩
  ·skip
   rw [if_pos (show true = true by decide)] at H
   refine Sg.cf rfl rfl ?_
   first | refine Sg.sk ?_ | refine Sg.sk1 ?_
   refine Sg.sq ?_
   refine Sg.rg ?_
   have f20 := blk_below x13 b19
   refine Sg.ldr (hu := Try.underlying26) (hd := rfl) (hi := by kernel_rfl) (hg := f20) (h := ?_)
   have f21 := blk_below x10 b19
   refine Sg.ldr (hu := Try.underlying26) (hd := rfl) (hi := by kernel_rfl) (hg := f21) (h := ?_)
   refine Sg.cl (args := #[.agg #[.int .i64 a0_0, .int .i64 a0_1], .agg #[.int .i64 a1_0, .int .i64 a1_1]]) (hf := Try.func44) (hargs := Sg.a2 (Sg.rs rfl rfl) (Sg.rs rfl rfl)) (h := ?_)
   obtain ⟨r22, a23, H⟩ := Option.bind_eq_some_iff.1 H
   try dsimp only at H
   refine (spec_biAge.calls a0_0 a0_1 a1_0 a1_1 r22 _ a23).mono ?_
   rintro _ w24 ⟨rfl, b25⟩
   refine ⟨_, _, rfl, (Sg.ps rfl), ?_⟩
   refine Sg.asg (v := .int .i64 r22) (h := ?_)
   refine Sg.asg (v := .bool true) (h := ?_)
   first | refine Sg.nl ?_ | refine Sg.nl1 ?_
   first | (simp only [Option.some.injEq, Prod.mk.injEq] at H) | skip
   obtain ⟨rfl, rfl⟩ := H
   first | refine Sg.rt0 ?_ | refine Sg.rt ?_
   exact hQ _ _ _ _ _ rfl rfl ⟨rfl, (below_step (below_step q15 b19) b25)⟩

end Go.Proofs.Ytaabfjfdalcceaa.E
