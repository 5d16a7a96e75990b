-- WRITTEN by xprint.py, a program of this session that drives the kit's printer: out of the translation. Lean checks it.
import Derived.Test.YtaabfjfdalcceaaSig
import Derived.Test.YtaabfjfdalcceaaE0
import Derived.Test.YtaabfjfdalcceaaE3
import Derived.Test.YtaabfjfdalcceaaE4
import Derived.Test.YtaabfjfdalcceaaWMore
import Derived.Test.YtaabfjfdalcceaaWTab
namespace Go.Proofs.Ytaabfjfdalcceaa.E
open Go.RowKit Go.Proofs.YtaabfjfdalcceaaW.PrintWords Go.Proofs.YtaabfjfdalcceaaW.PrintLast Go.Proofs.YtaabfjfdalcceaaW.PrintMore
attribute [local go_sem] max2_int min2_int max_two min_two max_three min_three max_four min_four   -- for this text's walks alone
set_option linter.unusedVariables false
set_option linter.unusedSimpArgs false

/-! ### impl_lastBirth: function 58 -/
def impl_lastBirth.l0 : Nat → Int → List (S26) → Int → Int → Option (Int)
  | 0, _, _, _, _ => none
  | k + 1, x3, x6, x7, x8 => if x8 < x7 then (if 0 ≤ x8 then (if x8 < (x6.length : Int) then ((impl_Date_index.f ((rd_T26 x6 x8).f0) ((rd_T26 x6 x8).f1)).bind fun t200 => (impl_lastBirth.l0 k (mx x3 t200) x6 x7 (wrap64 (x8 + 1)))) else (none)) else (none)) else (some x3)
def impl_lastBirth.f (k : Nat) (l0 : List (S26)) : Option (Int) := impl_lastBirth.l0 k 0 l0 (l0.length : Int) 0
theorem impl_lastBirth.mono_l : ∀ k, (∀ y0 y1 y2 y3, LeO (impl_lastBirth.l0 k y0 y1 y2 y3) (impl_lastBirth.l0 (k + 1) y0 y1 y2 y3))
  | 0 => fun _ _ _ _ r h => by simp [impl_lastBirth.l0] at h
  | k + 1 => by
    have ih0 := impl_lastBirth.mono_l k
    · intro y0 y1 y2 y3
      unfold impl_lastBirth.l0
      repeat' first
      | (with_reducible exact ih0 _ _ _ _)
      | (with_reducible exact LeO.refl _)
      | (with_reducible exact LeO.none _)
      | (with_reducible refine LeO.ite ?_ ?_)
      | (with_reducible refine LeO.bind ?_ (fun _ => ?_))
      | exact ih0 _ _ _ _
      | exact LeO.none _
      | refine LeO.ite ?_ ?_
      | refine LeO.bind ?_ (fun _ => ?_)
theorem impl_lastBirth.mono : ∀ a0 k, LeO (impl_lastBirth.f k a0) (impl_lastBirth.f (k + 1) a0) := by
  intro a0 k
  have ih0 := impl_lastBirth.mono_l k
  unfold impl_lastBirth.f
  repeat' first
      | (with_reducible exact ih0 _ _ _ _)
      | (with_reducible exact LeO.refl _)
      | (with_reducible exact LeO.none _)
      | (with_reducible refine LeO.ite ?_ ?_)
      | (with_reducible refine LeO.bind ?_ (fun _ => ?_))
      | exact ih0 _ _ _ _
      | exact LeO.none _
      | refine LeO.ite ?_ ?_
      | refine LeO.bind ?_ (fun _ => ?_)
set_option maxHeartbeats 8000000 in
set_option maxRecDepth 100000 in
theorem impl_lastBirth.calls (k : Nat) (A0 : Option Addr) (c0 : Nat) (l0 : List (S26)) (r : Int) (w : World) (hr0 : Kd.C k26 w A0 l0.length l0) (hc0 : l0.length ≤ c0) (h : impl_lastBirth.f k l0 = some r) :
    Calls Try.prog 58 #[.slice A0 l0.length c0] w fun e w' => e = .returned (.int .i64 r) ∧ Below w.heap.size w w' := by
  have hu26 := Try.underlying26
  have HR0 := am hr0
  have HC0 := am hc0
  clear hr0 hc0
  have HB := am (Below.refl w.heap.size w)
  have H : (impl_lastBirth.l0 k 0 l0 (l0.length : Int) 0) = some r := h
  clear h
  have H' := am H
  clear H
  go_enter Try.func58, Try.ntmps58
  go_wp2
  go_loopg [3, 8] k (fun kq v3 v8 w' => ∃ (x3_1 : Int) (x8_1 : Int), v3 = .int .i64 x3_1 ∧ v8 = .int .i64 x8_1 ∧ Aside0 (impl_lastBirth.l0 kq x3_1 l0 (l0.length : Int) x8_1 = some r) ∧ Aside0 (kq ≤ k) ∧ Aside0 (Below w.heap.size w w'))
  case atStart => exact ⟨(0), (0), (by first | rfl | (simp; done) | (simp [*]; done)), (by first | rfl | (simp; done) | (simp [*]; done)), H', ⟨Nat.le_refl _⟩, ⟨by exact bY HB.out⟩⟩
  case round =>
    clear H'
    obtain ⟨x3_1, x8_1, rfl, rfl, HA, HK1, HB⟩ := hrel
    cases gk with
    | zero => exact absurd HA.out (by simp [impl_lastBirth.l0])
    | succ k1 =>
      have H := HA.out
      clear HA
      simp only [impl_lastBirth.l0] at H
      by_cases c2 : x8_1 < (l0.length : Int)
      · rw [if_pos c2] at H
        have c2b0 : decide (x8_1 < (l0.length : Int)) = true := decide_eq_true c2
        clear c2
        by_cases c3 : 0 ≤ x8_1
        · rw [if_pos c3] at H
          have c3b0 : decide (0 ≤ x8_1) = true := decide_eq_true c3
          clear c3
          by_cases c4 : x8_1 < (l0.length : Int)
          · rw [if_pos c4] at H
            have c4b0 : decide (x8_1 < (l0.length : Int)) = true := decide_eq_true c4
            clear c4
            replace H := Option.bind_eq_some_iff.mp H
            obtain ⟨t200, A50, H⟩ := H
            replace H : (impl_lastBirth.l0 k1 (mx x3_1 t200) l0 (l0.length : Int) (wrap64 (x8_1 + 1))) = some r := H
            have A5 := am A50
            clear A50
            obtain ⟨ji6, hji6⟩ : ∃ j_ : Int, (mx x3_1 t200) = j_ := ⟨_, rfl⟩
            replace H : (impl_lastBirth.l0 k1 ji6 l0 (l0.length : Int) (wrap64 (x8_1 + 1))) = some r := by first | (rw [hji6] at H; exact H) | (simp only [hji6] at H ⊢; exact H)
            (try rw [hji6] at A5)
            have hji6_ : (if x3_1 < t200 then t200 else x3_1) = ji6 := hji6
            have H' := am H
            clear H
            have p198 : 0 ≤ (x8_1 : Int) := of_decide_eq_true (by first | (with_reducible assumption) | assumption)
            have q198 : x8_1 < (l0.length : Int) := of_decide_eq_true (by first | (with_reducible assumption) | assumption)
            obtain ⟨ad198, e198, hx198_0, hx198_1⟩ := at_T26 HR0.out x8_1 p198 q198
            cases e198
            replace hx198_0 := (HB.out.cell (World.block_lt_of_cell? w _ hx198_0)).trans hx198_0
            replace hx198_1 := (HB.out.cell (World.block_lt_of_cell? w _ hx198_1)).trans hx198_1
            replace p198 := eq_true p198
            replace q198 := eq_true q198
            go_wp2_with (first | ((with_reducible refine gate_dst (N := 5) rfl ?_); refine gX 5 #[.int .i64 0, .int .i64 0] 26 ?_; intro gb199 hg w7 hbox hb; have n0_ := am (below_step (bY HB.out) hb); have n1_ := am (hbox); have n2_ := am (gZ hg (bY HB.out)); have n3_ := am (gZ hg (bY HB.out)); clear HB; have HB := n0_; have BK199 := n1_; have GW199 := n2_; have GE199 := n3_; clear n0_ n1_ n2_ n3_; clear hb hbox hg; have hcz8_0 : w7.cell? ⟨gb199, 0, none⟩ = some (.int .i64 0) := (blk_cell BK199.out 0).trans rfl; have hcz8_1 : w7.cell? ⟨gb199, 1, none⟩ = some (.int .i64 0) := (blk_cell BK199.out 1).trans rfl; have hfz8_0 := blk_frozen BK199.out 0; have hfz8_1 := blk_frozen BK199.out 1) | ((with_reducible refine gate_callee (f := 36) rfl ?_); refine gC (some 14) Try.func36 #[.agg #[.int .i64 ((rd_T26 l0 x8_1).f0), .int .i64 ((rd_T26 l0 x8_1).f1)]] ?_; (with_reducible refine (impl_Date_index.calls ((rd_T26 l0 x8_1).f0) ((rd_T26 l0 x8_1).f1) t200 _ A5.out).mono ?_); rintro e w9 ⟨rfl, hb⟩; refine ⟨_, rfl, ?_⟩; have n0_ := am (blk_below (g := gb199) (o := .cells #[.int .i64 ((rd_T26 l0 x8_1).f0), .int .i64 ((rd_T26 l0 x8_1).f1)] 26 (0, 0)) (by (with_reducible repeat (first | refine blk_drewN ?_ _ | refine blk_drew ?_ | refine blk_alloc ?_ _)); refine blk_put (cs := #[.int .i64 ((rd_T26 l0 x8_1).f0), .int .i64 0]) ?_ 1 _ rfl; (with_reducible repeat (first | refine blk_drewN ?_ _ | refine blk_drew ?_ | refine blk_alloc ?_ _)); refine blk_put (cs := #[.int .i64 0, .int .i64 0]) ?_ 0 _ rfl; (with_reducible repeat (first | refine blk_drewN ?_ _ | refine blk_drew ?_ | refine blk_alloc ?_ _)); exact BK199.out) hb); have n1_ := am (below_step (bT HB.out) hb); clear BK199; clear HB; have BK199 := n0_; have HB := n1_; clear n0_ n1_; (try clear hb); (try clear hb2); (try clear hk); (try clear hi)))
            go_roundg k1
            case measure => have := HK1.out; omega
            case rel => exact ⟨(ji6), (wrap64 (x8_1 + 1)), (by first | rfl | (simp; done) | (simp only [← hji6] <;> (first | rfl | simp)) | (simp [*]; done)), (by first | rfl | (simp; done) | (simp [*]; done)), H', ⟨by have := HK1.out; omega⟩, ⟨by exact bT HB.out⟩⟩
          · rw [if_neg c4] at H
            exact absurd H (by simp)
        · rw [if_neg c3] at H
          exact absurd H (by simp)
      · rw [if_neg c2] at H
        have c2b0 : decide (x8_1 < (l0.length : Int)) = false := decide_eq_false c2
        clear c2
        obtain rfl := Option.some.inj H
        go_wp2
        go_ret
        exact ⟨by first | rfl | (simp [errW_none, errW_some] <;> rfl) | (simp [*, errW_none, errW_some] <;> rfl), by exact bY HB.out⟩

/-! ### impl_areBornOn: function 35 -/
def impl_areBornOn.f (k : Nat) (l0 : List (S26)) (a1_0 : Int) (a1_1 : Int) : Option (Bool) := (impl_AreBirthDates.f l0).bind fun t202 => (if t202 = true then ((impl_IsDate.f a1_0 a1_1).bind fun t203 => (if t203 = true then ((impl_lastBirth.f k l0).bind fun t204 => ((impl_Date_index.f a1_0 a1_1).bind fun t205 => (some (decide (t204 ≤ t205))))) else (some false))) else (some false))
theorem impl_areBornOn.mono : ∀ a0 a1 a2 k, LeO (impl_areBornOn.f k a0 a1 a2) (impl_areBornOn.f (k + 1) a0 a1 a2) := by
  intro a0 a1 a2 k
  unfold impl_areBornOn.f
  repeat' first
      | (with_reducible exact impl_lastBirth.mono _ _)
      | (with_reducible exact LeO.refl _)
      | (with_reducible exact LeO.none _)
      | (with_reducible refine LeO.ite ?_ ?_)
      | (with_reducible refine LeO.bind ?_ (fun _ => ?_))
      | exact impl_lastBirth.mono _ _
      | exact LeO.none _
      | refine LeO.ite ?_ ?_
      | refine LeO.bind ?_ (fun _ => ?_)
def impl_areBornOn.T1 : Bool × List (List Nat × List Nat) := (true, [([], []), ([0], [0]), ([1, 1], [1]), ([2], [2]), ([3, 2, 2], [2, 3]), ([2, 4], [2, 4]), ([5, 4], [5]), ([6], [6]), ([7, 6, 6], [6, 7]), ([6], [6]), ([9, 8, 6], [6, 9]), ([8, 10, 6], [6, 8, 10]), ([6, 11], [6, 11]), ([12, 10, 0, 1, 2, 3, 4, 5, 6, 7, 8, 9, 10, 11, 12], [12])])
def impl_areBornOn.B1 : List Nat := [0, 1, 3, 7, 15, 31, 63, 127, 255, 127, 1023, 2047, 4095, 8191]
theorem impl_areBornOn.tab1 : rtab .any (opsOf Try.f35 1) = impl_areBornOn.T1 := by kernel_rfl
theorem impl_areBornOn.bits1 : waitsOk impl_areBornOn.T1.2 impl_areBornOn.B1 = true := by kernel_rfl
set_option maxHeartbeats 8000000 in
set_option maxRecDepth 100000 in
set_option maxRecDepth 100000 in
set_option maxHeartbeats 4000000 in
theorem impl_areBornOn.calls (k : Nat) (A0 : Option Addr) (c0 : Nat) (l0 : List (S26)) (a1_0 : Int) (a1_1 : Int) (r : Bool) (w : World) (hr0 : Kd.C k26 w A0 l0.length l0) (hc0 : l0.length ≤ c0) (h : impl_areBornOn.f k l0 a1_0 a1_1 = some r) :
    Calls Try.prog 35 #[.slice A0 l0.length c0, .agg #[.int .i64 a1_0, .int .i64 a1_1]] w fun e w' => e = .returned (.bool r) ∧ Below w.heap.size w w' := by
  have H := h
  clear h
  unfold impl_areBornOn.f at H
  refine Sg.fn1 (m := 5) Try.func35 rfl rfl rfl rfl (fun Q hQp hQ => ?_)
  refine Sg.sq ?_
  refine Sg.rg ?_
  refine Sg.bx (cs := #[.int .i64 a1_0, .int .i64 a1_1]) (t0 := 26) (hs := Sg.rs rfl rfl) (hx := by first | (go_simp; done) | (go_simp; rfl)) (h := fun g1 w2 e3 x4 b5 => ⟨_, (Sg.pn rfl), ?_⟩)
  have l6 : w.heap.size ≤ g1 := Nat.le_of_eq e3.symm
  refine Sg.asg (v := .bool false) (h := ?_)
  first | refine Sg.nl ?_ | refine Sg.nl1 ?_
  refine Sg.sq ?_
  refine Sg.da (k := 14) (h := fun w7 b8 => ?_)
  refine Sg.dv (i := 0) (hy := fun _ => (Sg.Xmv (v := .slice A0 l0.length c0))) (h := ?_)
  refine Sg.dc (i := 1) (args := #[.slice A0 l0.length c0]) (hop := rfl) (hf := Try.func57) (hargs := Sg.a1 (Sg.rs rfl rfl)) (h := ?_)
  obtain ⟨r9, a10, H⟩ := Option.bind_eq_some_iff.1 H
  try dsimp only at H
  have f11 := Kd.C_below hr0 (below_step b5 b8)
  refine (impl_AreBirthDates.calls A0 c0 l0 r9 _ f11 hc0 a10).mono ?_
  rintro _ w12 ⟨rfl, b13⟩
  refine ⟨_, _, rfl, (Sg.ps rfl), (below_step b8 b13), ?_⟩
  refine Sg.dv (i := 2) (hy := fun _ => (Sg.Xmv (v := .bool r9))) (h := ?_)
  cases r9
  ·skip
   rw [if_neg (show ¬ (false = true) by decide)] at H
   refine Sg.doff (i := 3) (hg := rfl) (hw := Sg.yl (d := 7) rfl rfl rfl) (hb := rfl) (h := ?_)
   refine Sg.doff (i := 4) (hg := rfl) (hw := Sg.yl (d := 7) rfl rfl rfl) (hb := rfl) (h := ?_)
   refine Sg.dv (i := 5) (hy := fun _ => (Sg.Xpk (v := .bool false))) (h := ?_)
   refine Sg.dv (i := 6) (hy := fun _ => (Sg.Xmv (v := .bool false))) (h := ?_)
   refine Sg.doff (i := 7) (hg := rfl) (hw := Sg.yl (d := 11) rfl rfl rfl) (hb := rfl) (h := ?_)
   refine Sg.doff (i := 9) (hg := rfl) (hw := Sg.yl (d := 11) rfl rfl rfl) (hb := rfl) (h := ?_)
   refine Sg.doff (i := 8) (hg := rfl) (hw := Sg.yl (d := 11) rfl rfl rfl) (hb := rfl) (h := ?_)
   refine Sg.doff (i := 10) (hg := rfl) (hw := Sg.yl (d := 11) rfl rfl rfl) (hb := rfl) (h := ?_)
   refine Sg.doff (i := 11) (hg := rfl) (hw := Sg.yl (d := 11) rfl rfl rfl) (hb := rfl) (h := ?_)
   refine Sg.dv (i := 12) (hy := fun _ => (Sg.Xpk (v := .bool false))) (h := ?_)
   refine Sg.dv (i := 13) (hy := fun _ => (Sg.Xasg (v := .bool false))) (h := ?_)
   first | refine Sg.dend (h := ?_) | refine Sg.dend1 (h := ?_)
   first | (simp only [Option.some.injEq, Prod.mk.injEq] at H) | skip
   obtain rfl := H
   first | refine Sg.rt0 ?_ | refine Sg.rt ?_
   exact hQ _ _ _ _ rfl ⟨rfl, (below_step (below_step b5 b8) b13)⟩
  ·skip
   rw [if_pos (show true = true by decide)] at H
   refine Sg.dt (i := 3) (hb := below_step b8 b13) (hy := fun w_ b_ => (Sg.Xldr (hu := Try.underlying26) (hd := rfl) (hi := by kernel_rfl) (hg := blk_below x4 b_ ))) (hw := Sg.wy (d := 7) rfl rfl rfl) (h := ?_)
   refine Sg.dc (i := 4) (args := #[.agg #[.int .i64 a1_0, .int .i64 a1_1]]) (hop := rfl) (hf := Try.func32) (hw := Sg.wy (d := 7) rfl rfl rfl) (hargs := Sg.a1 (Sg.rs rfl rfl)) (h := ?_)
   obtain ⟨r14, a15, H⟩ := Option.bind_eq_some_iff.1 H
   try dsimp only at H
   refine (impl_IsDate.calls a1_0 a1_1 r14 _ a15).mono ?_
   rintro _ w16 ⟨rfl, b17⟩
   refine ⟨_, _, rfl, (Sg.ps rfl), (below_step (below_step b8 b13) b17), ?_⟩
   refine Sg.dv (i := 5) (hy := fun _ => (Sg.Xpk (v := .bool r14))) (h := ?_)
   refine Sg.dv (i := 6) (hy := fun _ => (Sg.Xmv (v := .bool r14))) (h := ?_)
   cases r14
   ·skip
    rw [if_neg (show ¬ (false = true) by decide)] at H
    refine Sg.doff (i := 7) (hg := rfl) (hw := Sg.yl (d := 11) rfl rfl rfl) (hb := rfl) (h := ?_)
    refine Sg.doff (i := 9) (hg := rfl) (hw := Sg.yl (d := 11) rfl rfl rfl) (hb := rfl) (h := ?_)
    refine Sg.doff (i := 8) (hg := rfl) (hw := Sg.yl (d := 11) rfl rfl rfl) (hb := rfl) (h := ?_)
    refine Sg.doff (i := 10) (hg := rfl) (hw := Sg.yl (d := 11) rfl rfl rfl) (hb := rfl) (h := ?_)
    refine Sg.doff (i := 11) (hg := rfl) (hw := Sg.yl (d := 11) rfl rfl rfl) (hb := rfl) (h := ?_)
    refine Sg.dv (i := 12) (hy := fun _ => (Sg.Xpk (v := .bool false))) (h := ?_)
    refine Sg.dv (i := 13) (hy := fun _ => (Sg.Xasg (v := .bool false))) (h := ?_)
    first | refine Sg.dend (h := ?_) | refine Sg.dend1 (h := ?_)
    first | (simp only [Option.some.injEq, Prod.mk.injEq] at H) | skip
    obtain rfl := H
    first | refine Sg.rt0 ?_ | refine Sg.rt ?_
    exact hQ _ _ _ _ rfl ⟨rfl, (below_step (below_step (below_step b5 b8) b13) b17)⟩
   ·skip
    rw [if_pos (show true = true by decide)] at H
    refine Sg.dv (i := 7) (hy := fun _ => (Sg.Xmv (v := .slice A0 l0.length c0))) (hw := Sg.wy (d := 11) rfl rfl rfl) (h := ?_)
    refine Sg.dt (i := 9) (hb := below_step (below_step b8 b13) b17) (hy := fun w_ b_ => (Sg.Xldr (hu := Try.underlying26) (hd := rfl) (hi := by kernel_rfl) (hg := blk_below x4 b_ ))) (hw := Sg.wy (d := 11) rfl rfl rfl) (h := ?_)
    refine Sg.dc (i := 8) (args := #[.slice A0 l0.length c0]) (hop := rfl) (hf := Try.func58) (hw := Sg.wy (d := 11) rfl rfl rfl) (hargs := Sg.a1 (Sg.rs rfl rfl)) (h := ?_)
    obtain ⟨r18, a19, H⟩ := Option.bind_eq_some_iff.1 H
    try dsimp only at H
    have f20 := Kd.C_below f11 (below_step b13 b17)
    refine (impl_lastBirth.calls k A0 c0 l0 r18 _ f20 hc0 a19).mono ?_
    rintro _ w21 ⟨rfl, b22⟩
    refine ⟨_, _, rfl, (Sg.ps rfl), (below_step (below_step (below_step b8 b13) b17) b22), ?_⟩
    refine Sg.dc (i := 10) (args := #[.agg #[.int .i64 a1_0, .int .i64 a1_1]]) (hop := rfl) (hf := Try.func36) (hw := Sg.wy (d := 11) rfl rfl rfl) (hargs := Sg.a1 (Sg.rs rfl rfl)) (h := ?_)
    obtain ⟨r23, a24, H⟩ := Option.bind_eq_some_iff.1 H
    try dsimp only at H
    refine (impl_Date_index.calls a1_0 a1_1 r23 _ a24).mono ?_
    rintro _ w25 ⟨rfl, b26⟩
    refine ⟨_, _, rfl, (Sg.ps rfl), (below_step (below_step (below_step (below_step b8 b13) b17) b22) b26), ?_⟩
    refine Sg.dv (i := 11) (hy := fun _ => (Sg.Xbin (v3 := .bool (decide (r18 ≤ r23))) (hv := Sg.Ileq (by simp)))) (hw := Sg.wy (d := 11) rfl rfl rfl) (h := ?_)
    refine Sg.dv (i := 12) (hy := fun _ => (Sg.Xpk (v := .bool (decide (r18 ≤ r23))))) (h := ?_)
    refine Sg.dv (i := 13) (hy := fun _ => (Sg.Xasg (v := .bool (decide (r18 ≤ r23))))) (h := ?_)
    first | refine Sg.dend (h := ?_) | refine Sg.dend1 (h := ?_)
    first | (simp only [Option.some.injEq, Prod.mk.injEq] at H) | skip
    obtain rfl := H
    first | refine Sg.rt0 ?_ | refine Sg.rt ?_
    exact hQ _ _ _ _ rfl ⟨rfl, (below_step (below_step (below_step (below_step (below_step b5 b8) b13) b17) b22) b26)⟩

/-! ### impl_Date_age: function 37 -/
def impl_Date_age.f (a0_0 : Int) (a0_1 : Int) (a1 : Int) : Option (Int) := (impl_Date_index.f a0_0 a0_1).bind fun t207 => (some (wrap64 (Int.tdiv (wrap64 (a1 - t207)) 365)))
set_option maxHeartbeats 8000000 in
set_option maxRecDepth 100000 in
theorem impl_Date_age.calls (a0_0 : Int) (a0_1 : Int) (a1 : Int) (r : Int) (w : World) (h : impl_Date_age.f a0_0 a0_1 a1 = some r) :
    Calls Try.prog 37 #[.agg #[.int .i64 a0_0, .int .i64 a0_1], .int .i64 a1] w fun e w' => e = .returned (.int .i64 r) ∧ Below w.heap.size w w' := by
  have hu26 := Try.underlying26
  have HB := am (Below.refl w.heap.size w)
  have H : ((impl_Date_index.f a0_0 a0_1).bind fun t207 => (some (wrap64 (Int.tdiv (wrap64 (a1 - t207)) 365)))) = some r := h
  clear h
  replace H := Option.bind_eq_some_iff.mp H
  obtain ⟨t207, A30, H⟩ := H
  replace H : (some (wrap64 (Int.tdiv (wrap64 (a1 - t207)) 365))) = some r := H
  have A3 := am A30
  clear A30
  obtain rfl := Option.some.inj H
  go_enter Try.func37, Try.ntmps37
  go_wp2_with (first | ((with_reducible refine gate_dst (N := 2) rfl ?_); refine gX 2 #[.int .i64 a0_0, .int .i64 a0_1] 26 ?_; intro gb206 hg w4 hbox hb; have n0_ := am (below_step (bY HB.out) hb); have n1_ := am (hbox); have n2_ := am (gZ hg (bY HB.out)); have n3_ := am (gZ hg (bY HB.out)); clear HB; have HB := n0_; have BK206 := n1_; have GW206 := n2_; have GE206 := n3_; clear n0_ n1_ n2_ n3_; clear hb hbox hg; have hcz5_0 : w4.cell? ⟨gb206, 0, none⟩ = some (.int .i64 a0_0) := (blk_cell BK206.out 0).trans rfl; have hcz5_1 : w4.cell? ⟨gb206, 1, none⟩ = some (.int .i64 a0_1) := (blk_cell BK206.out 1).trans rfl; have hfz5_0 := blk_frozen BK206.out 0; have hfz5_1 := blk_frozen BK206.out 1) | ((with_reducible refine gate_callee (f := 36) rfl ?_); refine gC (some 7) Try.func36 #[.agg #[.int .i64 a0_0, .int .i64 a0_1]] ?_; (with_reducible refine (impl_Date_index.calls a0_0 a0_1 t207 _ A3.out).mono ?_); rintro e w6 ⟨rfl, hb⟩; refine ⟨_, rfl, ?_⟩; have n0_ := am (blk_below (bQ BK206.out) hb); have n1_ := am (below_step (bT HB.out) hb); clear BK206; clear HB; have BK206 := n0_; have HB := n1_; clear n0_ n1_; (try clear hb); (try clear hb2); (try clear hk); (try clear hi)))
  go_ret
  exact ⟨by first | rfl | (simp [errW_none, errW_some] <;> rfl) | (simp [*, errW_none, errW_some] <;> rfl), by exact bT HB.out⟩

/-! ### impl_dateAt: function 48 -/
def impl_dateAt.f (a0 : Int) : Option (Int × Int × Bool) := (impl_between.f a0 0 1095364).bind fun t209 => (if t209 = true then (some (wrap64 (Int.tdiv a0 365), wrap64 ((Int.tmod a0 365) + 1), true)) else (some (0, 0, false)))
set_option maxHeartbeats 8000000 in
set_option maxRecDepth 100000 in
theorem impl_dateAt.calls (a0 : Int) (r1 : Int) (r2 : Int) (r3 : Bool) (w : World) (h : impl_dateAt.f a0 = some (r1, r2, r3)) :
    Calls Try.prog 48 #[.int .i64 a0] w fun e w' => e = .returned (.tuple #[.agg #[.int .i64 r1, .int .i64 r2], .bool r3]) ∧ Below w.heap.size w w' := by
  have hu26 := Try.underlying26
  have HB := am (Below.refl w.heap.size w)
  have H : ((impl_between.f a0 0 1095364).bind fun t209 => (if t209 = true then (some (wrap64 (Int.tdiv a0 365), wrap64 ((Int.tmod a0 365) + 1), true)) else (some (0, 0, false)))) = some (r1, r2, r3) := h
  clear h
  replace H := Option.bind_eq_some_iff.mp H
  obtain ⟨t209, A20, H⟩ := H
  replace H : (if t209 = true then (some (wrap64 (Int.tdiv a0 365), wrap64 ((Int.tmod a0 365) + 1), true)) else (some (0, 0, false))) = some (r1, r2, r3) := H
  have A2 := am A20
  clear A20
  by_cases c3 : t209 = true
  · subst c3
    have H1 : (some (wrap64 (Int.tdiv a0 365), wrap64 ((Int.tmod a0 365) + 1), true)) = some (r1, r2, r3) := by first | (rw [if_pos rfl] at H; exact H) | rfl
    clear H
    have H := H1
    clear H1
    simp only [Option.some.injEq, Prod.mk.injEq] at H
    obtain ⟨rfl, rfl, rfl⟩ := H
    go_enter Try.func48, Try.ntmps48
    go_wp2_with (first | ((with_reducible refine gate_dst (N := 2) rfl ?_); refine gX 2 #[.int .i64 0, .int .i64 0] 26 ?_; intro gb208 hg w4 hbox hb; have n0_ := am (below_step (bY HB.out) hb); have n1_ := am (hbox); have n2_ := am (gZ hg (bY HB.out)); have n3_ := am (gZ hg (bY HB.out)); clear HB; have HB := n0_; have BK208 := n1_; have GW208 := n2_; have GE208 := n3_; clear n0_ n1_ n2_ n3_; clear hb hbox hg) | ((with_reducible refine gate_callee (f := 47) rfl ?_); refine gC (some 5) Try.func47 #[.int .i64 a0, .int .i64 0, .int .i64 1095364] ?_; (with_reducible refine (impl_between.calls a0 0 1095364 true _ A2.out).mono ?_); rintro e w' ⟨rfl, ⟨nd, rfl⟩⟩; refine ⟨_, rfl, ?_⟩; (try (rw [drewN_self w4]; generalize hq_ : World.drewN w4 _ = w4; have n0_ : Aside0 (w4.heap[gb208]? = some (.cells #[.int .i64 0, .int .i64 0] 26 (0, 0))) := ⟨by rw [← hq_]; exact (bQ BK208.out)⟩; have n1_ : Aside0 (Below w.heap.size w w4) := ⟨by rw [← hq_]; exact (bT HB.out)⟩; clear BK208 HB hq_; have BK208 := n0_; have HB := n1_; clear n0_ n1_)); have hcz5_0 : w4.cell? ⟨gb208, 0, none⟩ = some (.int .i64 0) := (blk_cell BK208.out 0).trans rfl; have hcz5_1 : w4.cell? ⟨gb208, 1, none⟩ = some (.int .i64 0) := (blk_cell BK208.out 1).trans rfl; have hfz5_0 := blk_frozen BK208.out 0; have hfz5_1 := blk_frozen BK208.out 1))
    refine bodyPost_ret (results_ct rfl _ _ gb208 26 #[.int .i64 (wrap64 (Int.tdiv a0 365)), .int .i64 (wrap64 ((Int.tmod a0 365) + 1))] (0, 0) _ rfl (by (with_reducible repeat (first | refine blk_drewN ?_ _ | refine blk_drew ?_ | refine blk_alloc ?_ _)); refine blk_put (cs := #[.int .i64 (wrap64 (Int.tdiv a0 365)), .int .i64 0]) ?_ 1 _ rfl; (with_reducible repeat (first | refine blk_drewN ?_ _ | refine blk_drew ?_ | refine blk_alloc ?_ _)); refine blk_put (cs := #[.int .i64 0, .int .i64 0]) ?_ 0 _ rfl; (with_reducible repeat (first | refine blk_drewN ?_ _ | refine blk_drew ?_ | refine blk_alloc ?_ _)); exact BK208.out) Try.underlying26 rfl (by kernel_rfl)) rfl ?_
    exact ⟨by first | rfl | (simp [errW_none, errW_some] <;> rfl) | (simp [*, errW_none, errW_some] <;> rfl), by exact bT HB.out⟩
  · replace c3 := Bool.eq_false_iff.mpr c3
    subst c3
    have H1 : (some (0, 0, false)) = some (r1, r2, r3) := by first | (rw [if_neg (show ¬ (false = true) by decide)] at H; exact H) | rfl
    clear H
    have H := H1
    clear H1
    simp only [Option.some.injEq, Prod.mk.injEq] at H
    obtain ⟨rfl, rfl, rfl⟩ := H
    go_enter Try.func48, Try.ntmps48
    go_wp2_with (first | ((with_reducible refine gate_dst (N := 2) rfl ?_); refine gX 2 #[.int .i64 0, .int .i64 0] 26 ?_; intro gb208 hg w6 hbox hb; have n0_ := am (below_step (bY HB.out) hb); have n1_ := am (hbox); have n2_ := am (gZ hg (bY HB.out)); have n3_ := am (gZ hg (bY HB.out)); clear HB; have HB := n0_; have BK208 := n1_; have GW208 := n2_; have GE208 := n3_; clear n0_ n1_ n2_ n3_; clear hb hbox hg) | ((with_reducible refine gate_callee (f := 47) rfl ?_); refine gC (some 5) Try.func47 #[.int .i64 a0, .int .i64 0, .int .i64 1095364] ?_; (with_reducible refine (impl_between.calls a0 0 1095364 false _ A2.out).mono ?_); rintro e w' ⟨rfl, ⟨nd, rfl⟩⟩; refine ⟨_, rfl, ?_⟩; (try (rw [drewN_self w6]; generalize hq_ : World.drewN w6 _ = w6; have n0_ : Aside0 (w6.heap[gb208]? = some (.cells #[.int .i64 0, .int .i64 0] 26 (0, 0))) := ⟨by rw [← hq_]; exact (bQ BK208.out)⟩; have n1_ : Aside0 (Below w.heap.size w w6) := ⟨by rw [← hq_]; exact (bT HB.out)⟩; clear BK208 HB hq_; have BK208 := n0_; have HB := n1_; clear n0_ n1_)); have hcz7_0 : w6.cell? ⟨gb208, 0, none⟩ = some (.int .i64 0) := (blk_cell BK208.out 0).trans rfl; have hcz7_1 : w6.cell? ⟨gb208, 1, none⟩ = some (.int .i64 0) := (blk_cell BK208.out 1).trans rfl; have hfz7_0 := blk_frozen BK208.out 0; have hfz7_1 := blk_frozen BK208.out 1))
    refine bodyPost_ret (results_ct rfl _ _ gb208 26 #[.int .i64 0, .int .i64 0] (0, 0) _ rfl (by (with_reducible repeat (first | refine blk_drewN ?_ _ | refine blk_drew ?_ | refine blk_alloc ?_ _)); refine blk_put (cs := #[.int .i64 0, .int .i64 0]) ?_ 1 _ rfl; (with_reducible repeat (first | refine blk_drewN ?_ _ | refine blk_drew ?_ | refine blk_alloc ?_ _)); refine blk_put (cs := #[.int .i64 0, .int .i64 0]) ?_ 0 _ rfl; (with_reducible repeat (first | refine blk_drewN ?_ _ | refine blk_drew ?_ | refine blk_alloc ?_ _)); exact BK208.out) Try.underlying26 rfl (by kernel_rfl)) rfl ?_
    exact ⟨by first | rfl | (simp [errW_none, errW_some] <;> rfl) | (simp [*, errW_none, errW_some] <;> rfl), by exact bT HB.out⟩

/-! ### impl_birthdayOf: function 38 -/
def impl_birthdayOf.l0 : Nat → List Int → List (S26) → Int → Int → Int → Int → Option (Int × Int × List Int × Bool)
  | 0, _, _, _, _, _, _ => none
  | k + 1, x9, x21, x22, x23, x215000, x215001 => if x23 < x22 then (if 0 ≤ x23 then (if x23 < (x21.length : Int) then (if ((rd_T26 x21 x23).f1) = x215001 then (if ((rd_T26 x21 x23).f0) < x215000 then (if x9.length < 17592186044416 then (impl_birthdayOf.l0 k (x9 ++ [x23]) x21 x22 (wrap64 (x23 + 1)) x215000 x215001) else (none)) else (impl_birthdayOf.l0 k x9 x21 x22 (wrap64 (x23 + 1)) x215000 x215001)) else (impl_birthdayOf.l0 k x9 x21 x22 (wrap64 (x23 + 1)) x215000 x215001)) else (none)) else (none)) else (some (x215000, x215001, x9, true))
def impl_birthdayOf.f (k : Nat) (l0 : List (S26)) (a1 : Int) : Option (Int × Int × List Int × Bool) := (impl_dateAt.f a1).bind fun bt211 => (if bt211.2.2 = true then (impl_birthdayOf.l0 k (([] : List Int)) l0 (l0.length : Int) 0 bt211.1 bt211.2.1) else (some (0, 0, ([] : List Int), false)))
theorem impl_birthdayOf.mono_l : ∀ k, (∀ y0 y1 y2 y3 y4 y5, LeO (impl_birthdayOf.l0 k y0 y1 y2 y3 y4 y5) (impl_birthdayOf.l0 (k + 1) y0 y1 y2 y3 y4 y5))
  | 0 => fun _ _ _ _ _ _ r h => by simp [impl_birthdayOf.l0] at h
  | k + 1 => by
    have ih0 := impl_birthdayOf.mono_l k
    · intro y0 y1 y2 y3 y4 y5
      unfold impl_birthdayOf.l0
      repeat' first
      | (with_reducible exact ih0 _ _ _ _ _ _)
      | (with_reducible exact LeO.refl _)
      | (with_reducible exact LeO.none _)
      | (with_reducible refine LeO.ite ?_ ?_)
      | (with_reducible refine LeO.bind ?_ (fun _ => ?_))
      | exact ih0 _ _ _ _ _ _
      | exact LeO.none _
      | refine LeO.ite ?_ ?_
      | refine LeO.bind ?_ (fun _ => ?_)
theorem impl_birthdayOf.mono : ∀ a0 a1 k, LeO (impl_birthdayOf.f k a0 a1) (impl_birthdayOf.f (k + 1) a0 a1) := by
  intro a0 a1 k
  have ih0 := impl_birthdayOf.mono_l k
  unfold impl_birthdayOf.f
  repeat' first
      | (with_reducible exact ih0 _ _ _ _ _ _)
      | (with_reducible exact LeO.refl _)
      | (with_reducible exact LeO.none _)
      | (with_reducible refine LeO.ite ?_ ?_)
      | (with_reducible refine LeO.bind ?_ (fun _ => ?_))
      | exact ih0 _ _ _ _ _ _
      | exact LeO.none _
      | refine LeO.ite ?_ ?_
      | refine LeO.bind ?_ (fun _ => ?_)
set_option maxHeartbeats 8000000 in
set_option maxRecDepth 100000 in
theorem impl_birthdayOf.calls (k : Nat) (A0 : Option Addr) (c0 : Nat) (l0 : List (S26)) (a1 : Int) (r1 : Int) (r2 : Int) (r3 : List Int) (r4 : Bool) (w : World) (hr0 : Kd.C k26 w A0 l0.length l0) (hc0 : l0.length ≤ c0) (h : impl_birthdayOf.f k l0 a1 = some (r1, r2, r3, r4)) :
    Calls Try.prog 38 #[.slice A0 l0.length c0, .int .i64 a1] w fun e w' => ∃ v2_ : Value, e = .returned (.tuple #[.agg #[.int .i64 r1, .int .i64 r2], v2_, .bool r4]) ∧ Kd.R (Kd.int .i64) 3 w' w.heap.size (fun _ => True) v2_ r3 ∧ Below w.heap.size w w' := by
  have hu26 := Try.underlying26
  have HR0 := am hr0
  have HC0 := am hc0
  clear hr0 hc0
  have HB := am (Below.refl w.heap.size w)
  have H : ((impl_dateAt.f a1).bind fun bt211 => (if bt211.2.2 = true then (impl_birthdayOf.l0 k (([] : List Int)) l0 (l0.length : Int) 0 bt211.1 bt211.2.1) else (some (0, 0, ([] : List Int), false)))) = some (r1, r2, r3, r4) := h
  clear h
  replace H := Option.bind_eq_some_iff.mp H
  obtain ⟨⟨t211, t212, t213⟩, A30, H⟩ := H
  replace H : (if t213 = true then (impl_birthdayOf.l0 k (([] : List Int)) l0 (l0.length : Int) 0 t211 t212) else (some (0, 0, ([] : List Int), false))) = some (r1, r2, r3, r4) := H
  have A3 := am A30
  clear A30
  by_cases c4 : t213 = true
  · subst c4
    have H1 : (impl_birthdayOf.l0 k (([] : List Int)) l0 (l0.length : Int) 0 t211 t212) = some (r1, r2, r3, r4) := by first | (rw [if_pos rfl] at H; exact H) | rfl
    clear H
    have H := H1
    clear H1
    obtain ⟨y215, hy215⟩ : ∃ y_ : List Int, y_ = (([] : List Int)) := ⟨_, rfl⟩
    replace H : (impl_birthdayOf.l0 k y215 l0 (l0.length : Int) 0 t211 t212) = some (r1, r2, r3, r4) := by first | (rw [hy215]; with_reducible exact H) | (have H2_ := (Option.bind_some _ _).symm.trans H; rw [hy215]; with_reducible exact H2_) | (have H2_ := (Option.bind_some _ _).symm.trans H; with_reducible exact H2_) | with_reducible exact H | (rw [hy215]; exact H) | exact H
    have Ny215 := am hy215
    clear hy215
    have H' := am H
    clear H
    go_enter Try.func38, Try.ntmps38
    go_wp2_with (first | ((with_reducible refine gate_dst (N := 4) rfl ?_); refine gX 4 #[.int .i64 0, .int .i64 0] 26 ?_; intro gb210 hg w5 hbox hb; have n0_ := am (below_step (bY HB.out) hb); have n1_ := am (hbox); have n2_ := am (gZ hg (bY HB.out)); have n3_ := am (gZ hg (bY HB.out)); clear HB; have HB := n0_; have BK210 := n1_; have GW210 := n2_; have GE210 := n3_; clear n0_ n1_ n2_ n3_; clear hb hbox hg) | ((with_reducible refine gate_callee (f := 48) rfl ?_); refine gC (some 14) Try.func48 #[.int .i64 a1] ?_; (with_reducible refine (impl_dateAt.calls a1 t211 t212 true _ A3.out).mono ?_); rintro e w6 ⟨rfl, hb⟩; refine ⟨_, rfl, ?_⟩; have n0_ := am (blk_below (bQ BK210.out) hb); have n1_ := am (below_step (bT HB.out) hb); clear BK210; clear HB; have BK210 := n0_; have HB := n1_; clear n0_ n1_; (try clear hb); (try clear hb2); (try clear hk); (try clear hi)) | ((with_reducible refine gate_dst (N := 7) rfl ?_); refine gX 7 #[.int .i64 0, .int .i64 0] 26 ?_; intro gb214 hg w7 hbox hb; have n0_ := am (blk_below (bQ BK210.out) hb); have n1_ := am (below_step (bT HB.out) hb); have n2_ := am (hbox); have n3_ := am (gZ hg (bT HB.out)); have n4_ := am (gZ hg (bT HB.out)); have n5_ := am (gL hg (bQ BK210.out)); have n6_ := am (gG hg (bQ BK210.out)); clear BK210; clear HB; have BK210 := n0_; have HB := n1_; have BK214 := n2_; have GW214 := n3_; have GE214 := n4_; have NB210_214 := n5_; have NB214_210 := n6_; clear n0_ n1_ n2_ n3_ n4_ n5_ n6_; clear hb hbox hg; have hnb8 := NB214_210.out; have hnc8 := NB210_214.out; have hcz9_0 : w7.cell? ⟨gb214, 0, none⟩ = some (.int .i64 0) := (blk_cell BK214.out 0).trans rfl; have hcz9_1 : w7.cell? ⟨gb214, 1, none⟩ = some (.int .i64 0) := (blk_cell BK214.out 1).trans rfl; have hfz9_0 := blk_frozen BK214.out 0; have hfz9_1 := blk_frozen BK214.out 1) | ((with_reducible refine gate_dst (N := 20) rfl ?_); refine Kd.R_lit (Kd.int .i64) _ 3 ?hg (N := 20) ?hd (xs := ([] : List Int)) (inner := []) (ok := fun _ => True) (okp := fun _ => True) ?hr ?hp (fun _ hk => hk) trivial (Below.refl _ _) (Nat.le_refl _) (by simp) ?_; (case hd => rfl); (case hg => rfl); (case hr => first | (go_simp; done) | (go_simp; rfl)); (case hp => exact (Reps.none _ _)); intro v216 w10 ho11 hb hg_ hnew_; clear hg_ hnew_; (first | rw [← Ny215.out] at ho11 | (simp only [Int.reduceToNat] at ho11; rw [← Ny215.out] at ho11)); have n0_ := am (Kd.R_lower ho11 (below_size (bT HB.out))); have n1_ := am (blk_below (g := gb210) (o := .cells #[.int .i64 0, .int .i64 0] 26 (0, 0)) (by (with_reducible repeat (first | refine blk_drewN ?_ _ | refine blk_drew ?_ | refine blk_alloc ?_ _)); refine blk_far ?_ NB210_214.out _; (with_reducible repeat (first | refine blk_drewN ?_ _ | refine blk_drew ?_ | refine blk_alloc ?_ _)); refine blk_far ?_ NB210_214.out _; (with_reducible repeat (first | refine blk_drewN ?_ _ | refine blk_drew ?_ | refine blk_alloc ?_ _)); exact BK210.out) hb); have n2_ := am (blk_below (g := gb214) (o := .cells #[.int .i64 t211, .int .i64 t212] 26 (0, 0)) (by (with_reducible repeat (first | refine blk_drewN ?_ _ | refine blk_drew ?_ | refine blk_alloc ?_ _)); refine blk_put (cs := #[.int .i64 t211, .int .i64 0]) ?_ 1 _ rfl; (with_reducible repeat (first | refine blk_drewN ?_ _ | refine blk_drew ?_ | refine blk_alloc ?_ _)); refine blk_put (cs := #[.int .i64 0, .int .i64 0]) ?_ 0 _ rfl; (with_reducible repeat (first | refine blk_drewN ?_ _ | refine blk_drew ?_ | refine blk_alloc ?_ _)); exact BK214.out) hb); have n3_ := am (below_step (bT HB.out) hb); clear BK210; clear BK214; clear HB; have HO217 := n0_; have BK210 := n1_; have BK214 := n2_; have HB := n3_; clear n0_ n1_ n2_ n3_; clear hb ho11))
    go_loopg [9, 23] k (fun kq v9 v23 w' => ∃ (x9_1 : List Int) (x23_1 : Int), v23 = .int .i64 x23_1 ∧ Aside0 (impl_birthdayOf.l0 kq x9_1 l0 (l0.length : Int) x23_1 t211 t212 = some (r1, r2, r3, r4)) ∧ Aside0 (kq ≤ k) ∧ Aside0 (Kd.R (Kd.int .i64) 3 w' w.heap.size (fun _ => True) v9 x9_1) ∧ Aside0 (w'.heap[gb210]? = some (.cells #[.int .i64 0, .int .i64 0] 26 (0, 0))) ∧ Aside0 (w'.heap[gb214]? = some (.cells #[.int .i64 t211, .int .i64 t212] 26 (0, 0))) ∧ Aside0 (Below w.heap.size w w'))
    case atStart => exact ⟨(y215), (0), (by first | rfl | (simp; done) | (simp [*]; done)), H', ⟨Nat.le_refl _⟩, ⟨by (with_reducible repeat (first | apply Kd.R_alloc | apply Kd.R_drewN | apply Kd.R_drew)); exact HO217.out⟩, ⟨by (with_reducible repeat (first | refine blk_drewN ?_ _ | refine blk_drew ?_ | refine blk_alloc ?_ _)); exact BK210.out⟩, ⟨by (with_reducible repeat (first | refine blk_drewN ?_ _ | refine blk_drew ?_ | refine blk_alloc ?_ _)); exact BK214.out⟩, ⟨by exact bT HB.out⟩⟩
    case round =>
      clear H'
      try clear p2
      try clear c3
      try clear c4
      try clear c8
      try clear hcz9_0
      try clear hcz9_1
      try clear hfz9_0
      try clear hfz9_1
      obtain ⟨x9_1, x23_1, rfl, HA, HK1, HO_9, BK210, BK214, HB⟩ := hrel
      cases gk with
      | zero => exact absurd HA.out (by simp [impl_birthdayOf.l0])
      | succ k1 =>
        have H := HA.out
        clear HA
        simp only [impl_birthdayOf.l0] at H
        by_cases c12 : x23_1 < (l0.length : Int)
        · rw [if_pos c12] at H
          have c12b0 : decide (x23_1 < (l0.length : Int)) = true := decide_eq_true c12
          clear c12
          by_cases c13 : 0 ≤ x23_1
          · rw [if_pos c13] at H
            have c13b0 : decide (0 ≤ x23_1) = true := decide_eq_true c13
            clear c13
            by_cases c14 : x23_1 < (l0.length : Int)
            · rw [if_pos c14] at H
              have c14b0 : decide (x23_1 < (l0.length : Int)) = true := decide_eq_true c14
              clear c14
              by_cases c15 : ((rd_T26 l0 x23_1).f1) = t212
              · rw [if_pos c15] at H
                have c15b0 : (((rd_T26 l0 x23_1).f1) == t212) = true := beq_iff_eq.mpr c15
                have c15b1 : (((rd_T26 l0 x23_1).f1) != t212) = false := bne_eq_false_iff_eq.mpr c15
                clear c15
                by_cases c16 : ((rd_T26 l0 x23_1).f0) < t211
                · rw [if_pos c16] at H
                  have c16b0 : decide (((rd_T26 l0 x23_1).f0) < t211) = true := decide_eq_true c16
                  clear c16
                  by_cases c17 : x9_1.length < 17592186044416
                  · rw [if_pos c17] at H
                    have LMc17 := am c17
                    clear c17
                    obtain ⟨y220, hy220⟩ : ∃ y_ : List Int, y_ = (x9_1 ++ [x23_1]) := ⟨_, rfl⟩
                    replace H : (impl_birthdayOf.l0 k1 y220 l0 (l0.length : Int) (wrap64 (x23_1 + 1)) t211 t212) = some (r1, r2, r3, r4) := by first | (rw [hy220]; with_reducible exact H) | (have H2_ := (Option.bind_some _ _).symm.trans H; rw [hy220]; with_reducible exact H2_) | (have H2_ := (Option.bind_some _ _).symm.trans H; with_reducible exact H2_) | with_reducible exact H | (rw [hy220]; exact H) | exact H
                    have Ny220 := am hy220
                    clear hy220
                    have H' := am H
                    clear H
                    have p218 : 0 ≤ (x23_1 : Int) := of_decide_eq_true (by first | (with_reducible assumption) | assumption)
                    have q218 : x23_1 < (l0.length : Int) := of_decide_eq_true (by first | (with_reducible assumption) | assumption)
                    obtain ⟨ad218, e218, hx218_0, hx218_1⟩ := at_T26 HR0.out x23_1 p218 q218
                    cases e218
                    replace hx218_0 := (HB.out.cell (World.block_lt_of_cell? w _ hx218_0)).trans hx218_0
                    replace hx218_1 := (HB.out.cell (World.block_lt_of_cell? w _ hx218_1)).trans hx218_1
                    replace p218 := eq_true p218
                    replace q218 := eq_true q218
                    go_wp2_with (first | ((with_reducible refine gate_dst (N := 11) rfl ?_); refine gX 11 #[.int .i64 0, .int .i64 0] 26 ?_; intro gb219 hg w18 hbox hb; have n0_ := am (Kd.R_below (rR HO_9.out) hb); have n1_ := am (blk_below (bQ BK210.out) hb); have n2_ := am (blk_below (bQ BK214.out) hb); have n3_ := am (below_step (bT HB.out) hb); have n4_ := am (hbox); have n5_ := am (gZ hg (bT HB.out)); have n6_ := am (gZ hg (bT HB.out)); have n7_ := am (gL hg (bQ BK210.out)); have n8_ := am (gG hg (bQ BK210.out)); have n9_ := am (gL hg (bQ BK214.out)); have n10_ := am (gG hg (bQ BK214.out)); clear HO_9; clear BK210; clear BK214; clear HB; have HO_9 := n0_; have BK210 := n1_; have BK214 := n2_; have HB := n3_; have BK219 := n4_; have GW219 := n5_; have GE219 := n6_; have NB210_219 := n7_; have NB219_210 := n8_; have NB214_219 := n9_; have NB219_214 := n10_; clear n0_ n1_ n2_ n3_ n4_ n5_ n6_ n7_ n8_ n9_ n10_; clear hb hbox hg; have hnb19 := NB219_210.out; have hnc19 := NB210_219.out; have hnb20 := NB219_214.out; have hnc20 := NB214_219.out; have hcz21_0 : w18.cell? ⟨gb219, 0, none⟩ = some (.int .i64 0) := (blk_cell BK219.out 0).trans rfl; have hcz21_1 : w18.cell? ⟨gb219, 1, none⟩ = some (.int .i64 0) := (blk_cell BK219.out 1).trans rfl; have hfz21_0 := blk_frozen BK219.out 0; have hfz21_1 := blk_frozen BK219.out 1; have hnb22 := NB214_210.out; have hnc22 := NB210_214.out; have hcz23_0 : w18.cell? ⟨gb214, 0, none⟩ = some (.int .i64 t211) := (blk_cell BK214.out 0).trans rfl; have hcz23_1 : w18.cell? ⟨gb214, 1, none⟩ = some (.int .i64 t212) := (blk_cell BK214.out 1).trans rfl; have hfz23_0 := blk_frozen BK214.out 0; have hfz23_1 := blk_frozen BK214.out 1) | ((with_reducible refine gate_builtin (b := .append) (xs := #[.tmp 40, .tmp 42]) rfl ?_); at_builtin; refine Kd.R_append (Kd.int .i64) (w0 := w) w.heap.size rfl (.tmp 40) (.tmp 42) 29 3 (.int .i64 0) 8 rfl Try.underlying29 info3 rfl (by decide) (by omega) u9 x9_1 x23_1 [.int .i64 x23_1] (fun _ => True) (fun _ => False) rfl (by first | (go_simp; done) | (go_simp; rfl)) ?aP (fun _ hk => hk.elim) ?aF ?aO ?aB ?aS ?aL ?_; (case aP => exact rfl); (case aB => exact (bT HB.out)); (case aF => exact (fun _ _ => trivial)); (case aO => exact (by (with_reducible repeat (first | apply Kd.R_alloc | apply Kd.R_drewN | apply Kd.R_drew)); exact Kd.R_mono (Kd.R_far (p := ⟨gb219, 1, none⟩) (Kd.R_far (p := ⟨gb219, 0, none⟩) (Kd.R_types HO_9.out BK219.out (by decide)) (fun _ hk => hk.2) (.int .i64 ((rd_T26 l0 x23_1).f0))) (fun _ hk => hk.2) (.int .i64 ((rd_T26 l0 x23_1).f1))) (fun _ hk => trivial))); (case aS => exact (below_size (bT HB.out))); (case aL => have := LMc17.out; omega); intro v221 w24 ho hb hg hat; rw [← Ny220.out] at ho; have n0_ := am (blk_grown (g := gb210) (o := .cells #[.int .i64 0, .int .i64 0] 26 (0, 0)) (by (with_reducible repeat (first | refine blk_drewN ?_ _ | refine blk_drew ?_ | refine blk_alloc ?_ _)); refine blk_far ?_ NB210_219.out _; (with_reducible repeat (first | refine blk_drewN ?_ _ | refine blk_drew ?_ | refine blk_alloc ?_ _)); refine blk_far ?_ NB210_219.out _; (with_reducible repeat (first | refine blk_drewN ?_ _ | refine blk_drew ?_ | refine blk_alloc ?_ _)); exact BK210.out) hg (Kd.R_ne HO_9.out BK210.out (by decide))); have n1_ := am (blk_grown (g := gb214) (o := .cells #[.int .i64 t211, .int .i64 t212] 26 (0, 0)) (by (with_reducible repeat (first | refine blk_drewN ?_ _ | refine blk_drew ?_ | refine blk_alloc ?_ _)); refine blk_far ?_ NB214_219.out _; (with_reducible repeat (first | refine blk_drewN ?_ _ | refine blk_drew ?_ | refine blk_alloc ?_ _)); refine blk_far ?_ NB214_219.out _; (with_reducible repeat (first | refine blk_drewN ?_ _ | refine blk_drew ?_ | refine blk_alloc ?_ _)); exact BK214.out) hg (Kd.R_ne HO_9.out BK214.out (by decide))); have n2_ := am (blk_grown (g := gb219) (o := .cells #[.int .i64 ((rd_T26 l0 x23_1).f0), .int .i64 ((rd_T26 l0 x23_1).f1)] 26 (0, 0)) (by (with_reducible repeat (first | refine blk_drewN ?_ _ | refine blk_drew ?_ | refine blk_alloc ?_ _)); refine blk_put (cs := #[.int .i64 ((rd_T26 l0 x23_1).f0), .int .i64 0]) ?_ 1 _ rfl; (with_reducible repeat (first | refine blk_drewN ?_ _ | refine blk_drew ?_ | refine blk_alloc ?_ _)); refine blk_put (cs := #[.int .i64 0, .int .i64 0]) ?_ 0 _ rfl; (with_reducible repeat (first | refine blk_drewN ?_ _ | refine blk_drew ?_ | refine blk_alloc ?_ _)); exact BK219.out) hg (Kd.R_ne HO_9.out BK219.out (by decide))); have n3_ := am (hb); have n4_ := am (ho); clear BK210; clear BK214; clear BK219; clear HB; clear HO_9; have BK210 := n0_; have BK214 := n1_; have BK219 := n2_; have HB := n3_; have HO222 := n4_; clear n0_ n1_ n2_ n3_ n4_; clear ho hb hg hat))
                    go_roundg k1
                    case measure => have := HK1.out; omega
                    case rel => exact ⟨(y220), (wrap64 (x23_1 + 1)), (by first | rfl | (simp; done) | (simp [*]; done)), H', ⟨by have := HK1.out; omega⟩, ⟨by (with_reducible repeat (first | apply Kd.R_alloc | apply Kd.R_drewN | apply Kd.R_drew)); exact HO222.out⟩, ⟨by (with_reducible repeat (first | refine blk_drewN ?_ _ | refine blk_drew ?_ | refine blk_alloc ?_ _)); exact BK210.out⟩, ⟨by (with_reducible repeat (first | refine blk_drewN ?_ _ | refine blk_drew ?_ | refine blk_alloc ?_ _)); exact BK214.out⟩, ⟨by exact bT HB.out⟩⟩
                  · rw [if_neg c17] at H
                    exact absurd H (by simp)
                · rw [if_neg c16] at H
                  have c16b0 : decide (((rd_T26 l0 x23_1).f0) < t211) = false := decide_eq_false c16
                  clear c16
                  have H' := am H
                  clear H
                  have p218 : 0 ≤ (x23_1 : Int) := of_decide_eq_true (by first | (with_reducible assumption) | assumption)
                  have q218 : x23_1 < (l0.length : Int) := of_decide_eq_true (by first | (with_reducible assumption) | assumption)
                  obtain ⟨ad218, e218, hx218_0, hx218_1⟩ := at_T26 HR0.out x23_1 p218 q218
                  cases e218
                  replace hx218_0 := (HB.out.cell (World.block_lt_of_cell? w _ hx218_0)).trans hx218_0
                  replace hx218_1 := (HB.out.cell (World.block_lt_of_cell? w _ hx218_1)).trans hx218_1
                  replace p218 := eq_true p218
                  replace q218 := eq_true q218
                  go_wp2_with (first | ((with_reducible refine gate_dst (N := 11) rfl ?_); refine gX 11 #[.int .i64 0, .int .i64 0] 26 ?_; intro gb219 hg w25 hbox hb; have n0_ := am (Kd.R_below (rR HO_9.out) hb); have n1_ := am (blk_below (bQ BK210.out) hb); have n2_ := am (blk_below (bQ BK214.out) hb); have n3_ := am (below_step (bT HB.out) hb); have n4_ := am (hbox); have n5_ := am (gZ hg (bT HB.out)); have n6_ := am (gZ hg (bT HB.out)); have n7_ := am (gL hg (bQ BK210.out)); have n8_ := am (gG hg (bQ BK210.out)); have n9_ := am (gL hg (bQ BK214.out)); have n10_ := am (gG hg (bQ BK214.out)); clear HO_9; clear BK210; clear BK214; clear HB; have HO_9 := n0_; have BK210 := n1_; have BK214 := n2_; have HB := n3_; have BK219 := n4_; have GW219 := n5_; have GE219 := n6_; have NB210_219 := n7_; have NB219_210 := n8_; have NB214_219 := n9_; have NB219_214 := n10_; clear n0_ n1_ n2_ n3_ n4_ n5_ n6_ n7_ n8_ n9_ n10_; clear hb hbox hg; have hnb26 := NB219_210.out; have hnc26 := NB210_219.out; have hnb27 := NB219_214.out; have hnc27 := NB214_219.out; have hcz28_0 : w25.cell? ⟨gb219, 0, none⟩ = some (.int .i64 0) := (blk_cell BK219.out 0).trans rfl; have hcz28_1 : w25.cell? ⟨gb219, 1, none⟩ = some (.int .i64 0) := (blk_cell BK219.out 1).trans rfl; have hfz28_0 := blk_frozen BK219.out 0; have hfz28_1 := blk_frozen BK219.out 1; have hnb29 := NB214_210.out; have hnc29 := NB210_214.out; have hcz30_0 : w25.cell? ⟨gb214, 0, none⟩ = some (.int .i64 t211) := (blk_cell BK214.out 0).trans rfl; have hcz30_1 : w25.cell? ⟨gb214, 1, none⟩ = some (.int .i64 t212) := (blk_cell BK214.out 1).trans rfl; have hfz30_0 := blk_frozen BK214.out 0; have hfz30_1 := blk_frozen BK214.out 1))
                  go_roundg k1
                  case measure => have := HK1.out; omega
                  case rel => exact ⟨(x9_1), (wrap64 (x23_1 + 1)), (by first | rfl | (simp; done) | (simp [*]; done)), H', ⟨by have := HK1.out; omega⟩, ⟨by (with_reducible repeat (first | apply Kd.R_alloc | apply Kd.R_drewN | apply Kd.R_drew)); exact Kd.R_mono (Kd.R_far (p := ⟨gb219, 1, none⟩) (Kd.R_far (p := ⟨gb219, 0, none⟩) (Kd.R_types HO_9.out BK219.out (by decide)) (fun _ hk => hk.2) (.int .i64 ((rd_T26 l0 x23_1).f0))) (fun _ hk => hk.2) (.int .i64 ((rd_T26 l0 x23_1).f1))) (fun _ hk => trivial)⟩, ⟨by (with_reducible repeat (first | refine blk_drewN ?_ _ | refine blk_drew ?_ | refine blk_alloc ?_ _)); refine blk_far ?_ NB210_219.out _; (with_reducible repeat (first | refine blk_drewN ?_ _ | refine blk_drew ?_ | refine blk_alloc ?_ _)); refine blk_far ?_ NB210_219.out _; (with_reducible repeat (first | refine blk_drewN ?_ _ | refine blk_drew ?_ | refine blk_alloc ?_ _)); exact BK210.out⟩, ⟨by (with_reducible repeat (first | refine blk_drewN ?_ _ | refine blk_drew ?_ | refine blk_alloc ?_ _)); refine blk_far ?_ NB214_219.out _; (with_reducible repeat (first | refine blk_drewN ?_ _ | refine blk_drew ?_ | refine blk_alloc ?_ _)); refine blk_far ?_ NB214_219.out _; (with_reducible repeat (first | refine blk_drewN ?_ _ | refine blk_drew ?_ | refine blk_alloc ?_ _)); exact BK214.out⟩, ⟨by exact bT HB.out⟩⟩
              · rw [if_neg c15] at H
                have c15b0 : (((rd_T26 l0 x23_1).f1) == t212) = false := beq_eq_false_iff_ne.mpr c15
                have c15b1 : (((rd_T26 l0 x23_1).f1) != t212) = true := bne_iff_ne.mpr c15
                have H' := am H
                clear H
                have p218 : 0 ≤ (x23_1 : Int) := of_decide_eq_true (by first | (with_reducible assumption) | assumption)
                have q218 : x23_1 < (l0.length : Int) := of_decide_eq_true (by first | (with_reducible assumption) | assumption)
                obtain ⟨ad218, e218, hx218_0, hx218_1⟩ := at_T26 HR0.out x23_1 p218 q218
                cases e218
                replace hx218_0 := (HB.out.cell (World.block_lt_of_cell? w _ hx218_0)).trans hx218_0
                replace hx218_1 := (HB.out.cell (World.block_lt_of_cell? w _ hx218_1)).trans hx218_1
                replace p218 := eq_true p218
                replace q218 := eq_true q218
                go_wp2_with (first | ((with_reducible refine gate_dst (N := 11) rfl ?_); refine gX 11 #[.int .i64 0, .int .i64 0] 26 ?_; intro gb219 hg w31 hbox hb; have n0_ := am (Kd.R_below (rR HO_9.out) hb); have n1_ := am (blk_below (bQ BK210.out) hb); have n2_ := am (blk_below (bQ BK214.out) hb); have n3_ := am (below_step (bT HB.out) hb); have n4_ := am (hbox); have n5_ := am (gZ hg (bT HB.out)); have n6_ := am (gZ hg (bT HB.out)); have n7_ := am (gL hg (bQ BK210.out)); have n8_ := am (gG hg (bQ BK210.out)); have n9_ := am (gL hg (bQ BK214.out)); have n10_ := am (gG hg (bQ BK214.out)); clear HO_9; clear BK210; clear BK214; clear HB; have HO_9 := n0_; have BK210 := n1_; have BK214 := n2_; have HB := n3_; have BK219 := n4_; have GW219 := n5_; have GE219 := n6_; have NB210_219 := n7_; have NB219_210 := n8_; have NB214_219 := n9_; have NB219_214 := n10_; clear n0_ n1_ n2_ n3_ n4_ n5_ n6_ n7_ n8_ n9_ n10_; clear hb hbox hg; have hnb32 := NB219_210.out; have hnc32 := NB210_219.out; have hnb33 := NB219_214.out; have hnc33 := NB214_219.out; have hcz34_0 : w31.cell? ⟨gb219, 0, none⟩ = some (.int .i64 0) := (blk_cell BK219.out 0).trans rfl; have hcz34_1 : w31.cell? ⟨gb219, 1, none⟩ = some (.int .i64 0) := (blk_cell BK219.out 1).trans rfl; have hfz34_0 := blk_frozen BK219.out 0; have hfz34_1 := blk_frozen BK219.out 1; have hnb35 := NB214_210.out; have hnc35 := NB210_214.out; have hcz36_0 : w31.cell? ⟨gb214, 0, none⟩ = some (.int .i64 t211) := (blk_cell BK214.out 0).trans rfl; have hcz36_1 : w31.cell? ⟨gb214, 1, none⟩ = some (.int .i64 t212) := (blk_cell BK214.out 1).trans rfl; have hfz36_0 := blk_frozen BK214.out 0; have hfz36_1 := blk_frozen BK214.out 1))
                go_roundg k1
                case measure => have := HK1.out; omega
                case rel => exact ⟨(x9_1), (wrap64 (x23_1 + 1)), (by first | rfl | (simp; done) | (simp [*]; done)), H', ⟨by have := HK1.out; omega⟩, ⟨by (with_reducible repeat (first | apply Kd.R_alloc | apply Kd.R_drewN | apply Kd.R_drew)); exact Kd.R_mono (Kd.R_far (p := ⟨gb219, 1, none⟩) (Kd.R_far (p := ⟨gb219, 0, none⟩) (Kd.R_types HO_9.out BK219.out (by decide)) (fun _ hk => hk.2) (.int .i64 ((rd_T26 l0 x23_1).f0))) (fun _ hk => hk.2) (.int .i64 ((rd_T26 l0 x23_1).f1))) (fun _ hk => trivial)⟩, ⟨by (with_reducible repeat (first | refine blk_drewN ?_ _ | refine blk_drew ?_ | refine blk_alloc ?_ _)); refine blk_far ?_ NB210_219.out _; (with_reducible repeat (first | refine blk_drewN ?_ _ | refine blk_drew ?_ | refine blk_alloc ?_ _)); refine blk_far ?_ NB210_219.out _; (with_reducible repeat (first | refine blk_drewN ?_ _ | refine blk_drew ?_ | refine blk_alloc ?_ _)); exact BK210.out⟩, ⟨by (with_reducible repeat (first | refine blk_drewN ?_ _ | refine blk_drew ?_ | refine blk_alloc ?_ _)); refine blk_far ?_ NB214_219.out _; (with_reducible repeat (first | refine blk_drewN ?_ _ | refine blk_drew ?_ | refine blk_alloc ?_ _)); refine blk_far ?_ NB214_219.out _; (with_reducible repeat (first | refine blk_drewN ?_ _ | refine blk_drew ?_ | refine blk_alloc ?_ _)); exact BK214.out⟩, ⟨by exact bT HB.out⟩⟩
            · rw [if_neg c14] at H
              exact absurd H (by simp)
          · rw [if_neg c13] at H
            exact absurd H (by simp)
        · rw [if_neg c12] at H
          have c12b0 : decide (x23_1 < (l0.length : Int)) = false := decide_eq_false c12
          clear c12
          simp only [Option.some.injEq, Prod.mk.injEq] at H
          obtain ⟨rfl, rfl, rfl, rfl⟩ := H
          have hnb37 := NB214_210.out
          have hnc37 := NB210_214.out
          have hcz38_0 : wr.cell? ⟨gb214, 0, none⟩ = some (.int .i64 t211) := (blk_cell BK214.out 0).trans rfl
          have hcz38_1 : wr.cell? ⟨gb214, 1, none⟩ = some (.int .i64 t212) := (blk_cell BK214.out 1).trans rfl
          have hfz38_0 := blk_frozen BK214.out 0
          have hfz38_1 := blk_frozen BK214.out 1
          have hcz39_0 : wr.cell? ⟨gb210, 0, none⟩ = some (.int .i64 0) := (blk_cell BK210.out 0).trans rfl
          have hcz39_1 : wr.cell? ⟨gb210, 1, none⟩ = some (.int .i64 0) := (blk_cell BK210.out 1).trans rfl
          have hfz39_0 := blk_frozen BK210.out 0
          have hfz39_1 := blk_frozen BK210.out 1
          go_wp2
          refine bodyPost_ret (results_ctt rfl _ _ gb210 26 #[.int .i64 t211, .int .i64 t212] (0, 0) _ rfl (by (with_reducible repeat (first | refine blk_drewN ?_ _ | refine blk_drew ?_ | refine blk_alloc ?_ _)); refine blk_put (cs := #[.int .i64 t211, .int .i64 0]) ?_ 1 _ rfl; (with_reducible repeat (first | refine blk_drewN ?_ _ | refine blk_drew ?_ | refine blk_alloc ?_ _)); refine blk_put (cs := #[.int .i64 0, .int .i64 0]) ?_ 0 _ rfl; (with_reducible repeat (first | refine blk_drewN ?_ _ | refine blk_drew ?_ | refine blk_alloc ?_ _)); exact BK210.out) Try.underlying26 rfl (by kernel_rfl)) rfl ?_
          exact ⟨_, by first | rfl | (simp [errW_none, errW_some] <;> rfl) | (simp [*, errW_none, errW_some] <;> rfl), by (with_reducible repeat (first | apply Kd.R_alloc | apply Kd.R_drewN | apply Kd.R_drew)); exact Kd.R_mono (Kd.R_far (p := ⟨gb210, 1, none⟩) (Kd.R_far (p := ⟨gb210, 0, none⟩) (Kd.R_types HO_9.out BK210.out (by decide)) (fun _ hk => hk.2) (.int .i64 t211)) (fun _ hk => hk.2) (.int .i64 t212)) (fun _ hk => trivial), by exact bT HB.out⟩
  · replace c4 := Bool.eq_false_iff.mpr c4
    subst c4
    have H1 : (some (0, 0, ([] : List Int), false)) = some (r1, r2, r3, r4) := by first | (rw [if_neg (show ¬ (false = true) by decide)] at H; exact H) | rfl
    clear H
    have H := H1
    clear H1
    simp only [Option.some.injEq, Prod.mk.injEq] at H
    obtain ⟨rfl, rfl, rfl, rfl⟩ := H
    go_enter Try.func38, Try.ntmps38
    go_wp2_with (first | ((with_reducible refine gate_dst (N := 4) rfl ?_); refine gX 4 #[.int .i64 0, .int .i64 0] 26 ?_; intro gb210 hg w40 hbox hb; have n0_ := am (below_step (bY HB.out) hb); have n1_ := am (hbox); have n2_ := am (gZ hg (bY HB.out)); have n3_ := am (gZ hg (bY HB.out)); clear HB; have HB := n0_; have BK210 := n1_; have GW210 := n2_; have GE210 := n3_; clear n0_ n1_ n2_ n3_; clear hb hbox hg) | ((with_reducible refine gate_callee (f := 48) rfl ?_); refine gC (some 14) Try.func48 #[.int .i64 a1] ?_; (with_reducible refine (impl_dateAt.calls a1 t211 t212 false _ A3.out).mono ?_); rintro e w41 ⟨rfl, hb⟩; refine ⟨_, rfl, ?_⟩; have n0_ := am (blk_below (bQ BK210.out) hb); have n1_ := am (below_step (bT HB.out) hb); clear BK210; clear HB; have BK210 := n0_; have HB := n1_; clear n0_ n1_; (try clear hb); (try clear hb2); (try clear hk); (try clear hi)) | ((with_reducible refine gate_dst (N := 7) rfl ?_); refine gX 7 #[.int .i64 0, .int .i64 0] 26 ?_; intro gb214 hg w42 hbox hb; have n0_ := am (blk_below (bQ BK210.out) hb); have n1_ := am (below_step (bT HB.out) hb); have n2_ := am (hbox); have n3_ := am (gZ hg (bT HB.out)); have n4_ := am (gZ hg (bT HB.out)); have n5_ := am (gL hg (bQ BK210.out)); have n6_ := am (gG hg (bQ BK210.out)); clear BK210; clear HB; have BK210 := n0_; have HB := n1_; have BK214 := n2_; have GW214 := n3_; have GE214 := n4_; have NB210_214 := n5_; have NB214_210 := n6_; clear n0_ n1_ n2_ n3_ n4_ n5_ n6_; clear hb hbox hg; have hnb43 := NB214_210.out; have hnc43 := NB210_214.out; have hcz44_0 : w42.cell? ⟨gb214, 0, none⟩ = some (.int .i64 0) := (blk_cell BK214.out 0).trans rfl; have hcz44_1 : w42.cell? ⟨gb214, 1, none⟩ = some (.int .i64 0) := (blk_cell BK214.out 1).trans rfl; have hfz44_0 := blk_frozen BK214.out 0; have hfz44_1 := blk_frozen BK214.out 1; have hcz45_0 : w42.cell? ⟨gb210, 0, none⟩ = some (.int .i64 0) := (blk_cell BK210.out 0).trans rfl; have hcz45_1 : w42.cell? ⟨gb210, 1, none⟩ = some (.int .i64 0) := (blk_cell BK210.out 1).trans rfl; have hfz45_0 := blk_frozen BK210.out 0; have hfz45_1 := blk_frozen BK210.out 1))
    refine bodyPost_ret (results_ctt rfl _ _ gb210 26 #[.int .i64 0, .int .i64 0] (0, 0) _ rfl (by (with_reducible repeat (first | refine blk_drewN ?_ _ | refine blk_drew ?_ | refine blk_alloc ?_ _)); refine blk_put (cs := #[.int .i64 0, .int .i64 0]) ?_ 1 _ rfl; (with_reducible repeat (first | refine blk_drewN ?_ _ | refine blk_drew ?_ | refine blk_alloc ?_ _)); refine blk_put (cs := #[.int .i64 0, .int .i64 0]) ?_ 0 _ rfl; (with_reducible repeat (first | refine blk_drewN ?_ _ | refine blk_drew ?_ | refine blk_alloc ?_ _)); refine blk_far ?_ NB210_214.out _; (with_reducible repeat (first | refine blk_drewN ?_ _ | refine blk_drew ?_ | refine blk_alloc ?_ _)); refine blk_far ?_ NB210_214.out _; (with_reducible repeat (first | refine blk_drewN ?_ _ | refine blk_drew ?_ | refine blk_alloc ?_ _)); exact BK210.out) Try.underlying26 rfl (by kernel_rfl)) rfl ?_
    exact ⟨_, by first | rfl | (simp [errW_none, errW_some] <;> rfl) | (simp [*, errW_none, errW_some] <;> rfl), by first | exact Kd.R_nil _ _ _ _ _ | exact Kd.N_nil _ _ _ _ _ | exact Kd.V_nil _ _ _ _ _ | exact Kd.Q_nil _ _ _ _ _ | exact Kd.S_nil _ _ _ _ _, by exact bT HB.out⟩

end Go.Proofs.Ytaabfjfdalcceaa.E
