-- WRITTEN by xprint.py, a program of this session that drives the kit's printer: out of the translation. Lean checks it.
import Derived.Test.YtaabfjfdalcceaaE0
import Derived.Test.YtaabfjfdalcceaaE3
import Derived.Test.YtaabfjfdalcceaaE5
import Derived.Test.YtaabfjfdalcceaaE6
import Derived.Test.YtaabfjfdalcceaaWGuard
import Derived.Test.YtaabfjfdalcceaaWMore
namespace Go.Proofs.Ytaabfjfdalcceaa.E
open Go.RowKit Go.Proofs.YtaabfjfdalcceaaW.PrintWords Go.Proofs.YtaabfjfdalcceaaW.PrintLast Go.Proofs.YtaabfjfdalcceaaW.PrintMore
attribute [local go_sem] max2_int min2_int max_two min_two max_three min_three max_four min_four   -- for this text's walks alone
set_option linter.unusedVariables false
set_option linter.unusedSimpArgs false

/-! ### spec_biAll: function 39 -/
def spec_biAll.l0 : Nat → List (S26) → Int → Int → Int → Int → Option (Bool)
  | 0, _, _, _, _, _ => none
  | k + 1, x10, x11, x12, x252000, x252001 => if x12 < x11 then (if 0 ≤ x12 then (if x12 < (x10.length : Int) then ((spec_biBorn.f ((rd_T26 x10 x12).f0) ((rd_T26 x10 x12).f1) x252000 x252001).bind fun t255 => (if t255 = true then (spec_biAll.l0 k x10 x11 (wrap64 (x12 + 1)) x252000 x252001) else (some false))) else (none)) else (none)) else (some true)
def spec_biAll.f (k : Nat) (l0 : List (S26)) (a1_0 : Int) (a1_1 : Int) : Option (Bool) := (spec_biGood.f k l0).bind fun t252 => (if t252 = true then (spec_biAll.l0 k l0 (l0.length : Int) 0 a1_0 a1_1) else (some false))
theorem spec_biAll.mono_l : ∀ k, (∀ y0 y1 y2 y3 y4, LeO (spec_biAll.l0 k y0 y1 y2 y3 y4) (spec_biAll.l0 (k + 1) y0 y1 y2 y3 y4))
  | 0 => fun _ _ _ _ _ r h => by simp [spec_biAll.l0] at h
  | k + 1 => by
    have ih0 := spec_biAll.mono_l k
    · intro y0 y1 y2 y3 y4
      unfold spec_biAll.l0
      repeat' first
      | (with_reducible exact ih0 _ _ _ _ _)
      | (with_reducible exact spec_biGood.mono _ _)
      | (with_reducible exact LeO.refl _)
      | (with_reducible exact LeO.none _)
      | (with_reducible refine LeO.ite ?_ ?_)
      | (with_reducible refine LeO.bind ?_ (fun _ => ?_))
      | exact ih0 _ _ _ _ _
      | exact spec_biGood.mono _ _
      | exact LeO.none _
      | refine LeO.ite ?_ ?_
      | refine LeO.bind ?_ (fun _ => ?_)
theorem spec_biAll.mono : ∀ a0 a1 a2 k, LeO (spec_biAll.f k a0 a1 a2) (spec_biAll.f (k + 1) a0 a1 a2) := by
  intro a0 a1 a2 k
  have ih0 := spec_biAll.mono_l k
  unfold spec_biAll.f
  repeat' first
      | (with_reducible exact ih0 _ _ _ _ _)
      | (with_reducible exact spec_biGood.mono _ _)
      | (with_reducible exact LeO.refl _)
      | (with_reducible exact LeO.none _)
      | (with_reducible refine LeO.ite ?_ ?_)
      | (with_reducible refine LeO.bind ?_ (fun _ => ?_))
      | exact ih0 _ _ _ _ _
      | exact spec_biGood.mono _ _
      | exact LeO.none _
      | refine LeO.ite ?_ ?_
      | refine LeO.bind ?_ (fun _ => ?_)
set_option maxHeartbeats 8000000 in
set_option maxRecDepth 100000 in
theorem spec_biAll.calls (k : Nat) (A0 : Option Addr) (c0 : Nat) (l0 : List (S26)) (a1_0 : Int) (a1_1 : Int) (r : Bool) (w : World) (hr0 : Kd.C k26 w A0 l0.length l0) (hc0 : l0.length ≤ c0) (h : spec_biAll.f k l0 a1_0 a1_1 = some r) :
    Calls Try.prog 39 #[.slice A0 l0.length c0, .agg #[.int .i64 a1_0, .int .i64 a1_1]] w fun e w' => e = .returned (.bool r) ∧ Below w.heap.size w w' := by
  have hu26 := Try.underlying26
  have HR0 := am hr0
  have HC0 := am hc0
  clear hr0 hc0
  have HB := am (Below.refl w.heap.size w)
  have H : ((spec_biGood.f k l0).bind fun t252 => (if t252 = true then (spec_biAll.l0 k l0 (l0.length : Int) 0 a1_0 a1_1) else (some false))) = some r := h
  clear h
  replace H := Option.bind_eq_some_iff.mp H
  obtain ⟨t252, A30, H⟩ := H
  replace H : (if t252 = true then (spec_biAll.l0 k l0 (l0.length : Int) 0 a1_0 a1_1) else (some false)) = some r := H
  have A3 := am A30
  clear A30
  by_cases c4 : t252 = true
  · subst c4
    have H1 : (spec_biAll.l0 k l0 (l0.length : Int) 0 a1_0 a1_1) = some r := by first | (rw [if_pos rfl] at H; exact H) | rfl
    clear H
    have H := H1
    clear H1
    have H' := am H
    clear H
    go_enter Try.func39, Try.ntmps39
    go_wp2_with (first | ((with_reducible refine gate_dst (N := 3) rfl ?_); refine gX 3 #[.int .i64 a1_0, .int .i64 a1_1] 26 ?_; intro gb251 hg w5 hbox hb; have n0_ := am (below_step (bY HB.out) hb); have n1_ := am (hbox); have n2_ := am (gZ hg (bY HB.out)); have n3_ := am (gZ hg (bY HB.out)); clear HB; have HB := n0_; have BK251 := n1_; have GW251 := n2_; have GE251 := n3_; clear n0_ n1_ n2_ n3_; clear hb hbox hg) | ((with_reducible refine gate_callee (f := 59) rfl ?_); refine gC (some 8) Try.func59 #[.slice A0 l0.length c0] ?_; (with_reducible refine (spec_biGood.calls k _ _ l0 true _ ?side1 ?side2 A3.out).mono ?_); (case side1 => exact cY (Kd.C_below HR0.out HB.out)); (case side2 => exact HC0.out); rintro e w6 ⟨rfl, hb⟩; refine ⟨_, rfl, ?_⟩; have n0_ := am (blk_below (bQ BK251.out) hb); have n1_ := am (below_step (bT HB.out) hb); clear BK251; clear HB; have BK251 := n0_; have HB := n1_; clear n0_ n1_; (try clear hb); (try clear hb2); (try clear hk); (try clear hi)))
    go_loopg [12] k (fun kq v12 w' => ∃ (x12_1 : Int), v12 = .int .i64 x12_1 ∧ Aside0 (spec_biAll.l0 kq l0 (l0.length : Int) x12_1 a1_0 a1_1 = some r) ∧ Aside0 (kq ≤ k) ∧ Aside0 (w'.heap[gb251]? = some (.cells #[.int .i64 a1_0, .int .i64 a1_1] 26 (0, 0))) ∧ Aside0 (Below w.heap.size w w'))
    case atStart => exact ⟨(0), (by first | rfl | (simp; done) | (simp [*]; done)), H', ⟨Nat.le_refl _⟩, ⟨by (with_reducible repeat (first | refine blk_drewN ?_ _ | refine blk_drew ?_ | refine blk_alloc ?_ _)); exact BK251.out⟩, ⟨by exact bT HB.out⟩⟩
    case round =>
      clear H'
      try clear p2
      try clear c3
      try clear c4
      try clear c5
      obtain ⟨x12_1, rfl, HA, HK1, BK251, HB⟩ := hrel
      cases gk with
      | zero => exact absurd HA.out (by simp [spec_biAll.l0])
      | succ k1 =>
        have H := HA.out
        clear HA
        simp only [spec_biAll.l0] at H
        by_cases c7 : x12_1 < (l0.length : Int)
        · rw [if_pos c7] at H
          have c7b0 : decide (x12_1 < (l0.length : Int)) = true := decide_eq_true c7
          clear c7
          by_cases c8 : 0 ≤ x12_1
          · rw [if_pos c8] at H
            have c8b0 : decide (0 ≤ x12_1) = true := decide_eq_true c8
            clear c8
            by_cases c9 : x12_1 < (l0.length : Int)
            · rw [if_pos c9] at H
              have c9b0 : decide (x12_1 < (l0.length : Int)) = true := decide_eq_true c9
              clear c9
              replace H := Option.bind_eq_some_iff.mp H
              obtain ⟨t255, A100, H⟩ := H
              replace H : (if t255 = true then (spec_biAll.l0 k1 l0 (l0.length : Int) (wrap64 (x12_1 + 1)) a1_0 a1_1) else (some false)) = some r := H
              have A10 := am A100
              clear A100
              by_cases c11 : t255 = true
              · subst c11
                have H1 : (spec_biAll.l0 k1 l0 (l0.length : Int) (wrap64 (x12_1 + 1)) a1_0 a1_1) = some r := by first | (rw [if_pos rfl] at H; exact H) | rfl
                clear H
                have H := H1
                clear H1
                have H' := am H
                clear H
                have p253 : 0 ≤ (x12_1 : Int) := of_decide_eq_true (by first | (with_reducible assumption) | assumption)
                have q253 : x12_1 < (l0.length : Int) := of_decide_eq_true (by first | (with_reducible assumption) | assumption)
                obtain ⟨ad253, e253, hx253_0, hx253_1⟩ := at_T26 HR0.out x12_1 p253 q253
                cases e253
                replace hx253_0 := (HB.out.cell (World.block_lt_of_cell? w _ hx253_0)).trans hx253_0
                replace hx253_1 := (HB.out.cell (World.block_lt_of_cell? w _ hx253_1)).trans hx253_1
                replace p253 := eq_true p253
                replace q253 := eq_true q253
                go_wp2_with (first | ((with_reducible refine gate_dst (N := 6) rfl ?_); refine gX 6 #[.int .i64 0, .int .i64 0] 26 ?_; intro gb254 hg w12 hbox hb; have n0_ := am (blk_below (bQ BK251.out) hb); have n1_ := am (below_step (bT HB.out) hb); have n2_ := am (hbox); have n3_ := am (gZ hg (bT HB.out)); have n4_ := am (gZ hg (bT HB.out)); have n5_ := am (gL hg (bQ BK251.out)); have n6_ := am (gG hg (bQ BK251.out)); clear BK251; clear HB; have BK251 := n0_; have HB := n1_; have BK254 := n2_; have GW254 := n3_; have GE254 := n4_; have NB251_254 := n5_; have NB254_251 := n6_; clear n0_ n1_ n2_ n3_ n4_ n5_ n6_; clear hb hbox hg; have hnb13 := NB254_251.out; have hnc13 := NB251_254.out; have hcz14_0 : w12.cell? ⟨gb254, 0, none⟩ = some (.int .i64 0) := (blk_cell BK254.out 0).trans rfl; have hcz14_1 : w12.cell? ⟨gb254, 1, none⟩ = some (.int .i64 0) := (blk_cell BK254.out 1).trans rfl; have hfz14_0 := blk_frozen BK254.out 0; have hfz14_1 := blk_frozen BK254.out 1; have hcz15_0 : w12.cell? ⟨gb251, 0, none⟩ = some (.int .i64 a1_0) := (blk_cell BK251.out 0).trans rfl; have hcz15_1 : w12.cell? ⟨gb251, 1, none⟩ = some (.int .i64 a1_1) := (blk_cell BK251.out 1).trans rfl; have hfz15_0 := blk_frozen BK251.out 0; have hfz15_1 := blk_frozen BK251.out 1) | ((with_reducible refine gate_callee (f := 56) rfl ?_); refine gC (some 18) Try.func56 #[.agg #[.int .i64 ((rd_T26 l0 x12_1).f0), .int .i64 ((rd_T26 l0 x12_1).f1)], .agg #[.int .i64 a1_0, .int .i64 a1_1]] ?_; (with_reducible refine (spec_biBorn.calls ((rd_T26 l0 x12_1).f0) ((rd_T26 l0 x12_1).f1) a1_0 a1_1 true _ A10.out).mono ?_); rintro e w16 ⟨rfl, hb⟩; refine ⟨_, rfl, ?_⟩; have n0_ := am (blk_below (g := gb251) (o := .cells #[.int .i64 a1_0, .int .i64 a1_1] 26 (0, 0)) (by (with_reducible repeat (first | refine blk_drewN ?_ _ | refine blk_drew ?_ | refine blk_alloc ?_ _)); refine blk_far ?_ NB251_254.out _; (with_reducible repeat (first | refine blk_drewN ?_ _ | refine blk_drew ?_ | refine blk_alloc ?_ _)); refine blk_far ?_ NB251_254.out _; (with_reducible repeat (first | refine blk_drewN ?_ _ | refine blk_drew ?_ | refine blk_alloc ?_ _)); exact BK251.out) hb); have n1_ := am (blk_below (g := gb254) (o := .cells #[.int .i64 ((rd_T26 l0 x12_1).f0), .int .i64 ((rd_T26 l0 x12_1).f1)] 26 (0, 0)) (by (with_reducible repeat (first | refine blk_drewN ?_ _ | refine blk_drew ?_ | refine blk_alloc ?_ _)); refine blk_put (cs := #[.int .i64 ((rd_T26 l0 x12_1).f0), .int .i64 0]) ?_ 1 _ rfl; (with_reducible repeat (first | refine blk_drewN ?_ _ | refine blk_drew ?_ | refine blk_alloc ?_ _)); refine blk_put (cs := #[.int .i64 0, .int .i64 0]) ?_ 0 _ rfl; (with_reducible repeat (first | refine blk_drewN ?_ _ | refine blk_drew ?_ | refine blk_alloc ?_ _)); exact BK254.out) hb); have n2_ := am (below_step (bT HB.out) hb); clear BK251; clear BK254; clear HB; have BK251 := n0_; have BK254 := n1_; have HB := n2_; clear n0_ n1_ n2_; (try clear hb); (try clear hb2); (try clear hk); (try clear hi)))
                go_roundg k1
                case measure => have := HK1.out; omega
                case rel => exact ⟨(wrap64 (x12_1 + 1)), (by first | rfl | (simp; done) | (simp [*]; done)), H', ⟨by have := HK1.out; omega⟩, ⟨by (with_reducible repeat (first | refine blk_drewN ?_ _ | refine blk_drew ?_ | refine blk_alloc ?_ _)); exact BK251.out⟩, ⟨by exact bT HB.out⟩⟩
              · replace c11 := Bool.eq_false_iff.mpr c11
                subst c11
                have H1 : (some false) = some r := by first | (rw [if_neg (show ¬ (false = true) by decide)] at H; exact H) | rfl
                clear H
                have H := H1
                clear H1
                obtain rfl := Option.some.inj H
                have p253 : 0 ≤ (x12_1 : Int) := of_decide_eq_true (by first | (with_reducible assumption) | assumption)
                have q253 : x12_1 < (l0.length : Int) := of_decide_eq_true (by first | (with_reducible assumption) | assumption)
                obtain ⟨ad253, e253, hx253_0, hx253_1⟩ := at_T26 HR0.out x12_1 p253 q253
                cases e253
                replace hx253_0 := (HB.out.cell (World.block_lt_of_cell? w _ hx253_0)).trans hx253_0
                replace hx253_1 := (HB.out.cell (World.block_lt_of_cell? w _ hx253_1)).trans hx253_1
                replace p253 := eq_true p253
                replace q253 := eq_true q253
                go_wp2_with (first | ((with_reducible refine gate_dst (N := 6) rfl ?_); refine gX 6 #[.int .i64 0, .int .i64 0] 26 ?_; intro gb254 hg w17 hbox hb; have n0_ := am (blk_below (bQ BK251.out) hb); have n1_ := am (below_step (bT HB.out) hb); have n2_ := am (hbox); have n3_ := am (gZ hg (bT HB.out)); have n4_ := am (gZ hg (bT HB.out)); have n5_ := am (gL hg (bQ BK251.out)); have n6_ := am (gG hg (bQ BK251.out)); clear BK251; clear HB; have BK251 := n0_; have HB := n1_; have BK254 := n2_; have GW254 := n3_; have GE254 := n4_; have NB251_254 := n5_; have NB254_251 := n6_; clear n0_ n1_ n2_ n3_ n4_ n5_ n6_; clear hb hbox hg; have hnb18 := NB254_251.out; have hnc18 := NB251_254.out; have hcz19_0 : w17.cell? ⟨gb254, 0, none⟩ = some (.int .i64 0) := (blk_cell BK254.out 0).trans rfl; have hcz19_1 : w17.cell? ⟨gb254, 1, none⟩ = some (.int .i64 0) := (blk_cell BK254.out 1).trans rfl; have hfz19_0 := blk_frozen BK254.out 0; have hfz19_1 := blk_frozen BK254.out 1; have hcz20_0 : w17.cell? ⟨gb251, 0, none⟩ = some (.int .i64 a1_0) := (blk_cell BK251.out 0).trans rfl; have hcz20_1 : w17.cell? ⟨gb251, 1, none⟩ = some (.int .i64 a1_1) := (blk_cell BK251.out 1).trans rfl; have hfz20_0 := blk_frozen BK251.out 0; have hfz20_1 := blk_frozen BK251.out 1) | ((with_reducible refine gate_callee (f := 56) rfl ?_); refine gC (some 18) Try.func56 #[.agg #[.int .i64 ((rd_T26 l0 x12_1).f0), .int .i64 ((rd_T26 l0 x12_1).f1)], .agg #[.int .i64 a1_0, .int .i64 a1_1]] ?_; (with_reducible refine (spec_biBorn.calls ((rd_T26 l0 x12_1).f0) ((rd_T26 l0 x12_1).f1) a1_0 a1_1 false _ A10.out).mono ?_); rintro e w21 ⟨rfl, hb⟩; refine ⟨_, rfl, ?_⟩; have n0_ := am (blk_below (g := gb251) (o := .cells #[.int .i64 a1_0, .int .i64 a1_1] 26 (0, 0)) (by (with_reducible repeat (first | refine blk_drewN ?_ _ | refine blk_drew ?_ | refine blk_alloc ?_ _)); refine blk_far ?_ NB251_254.out _; (with_reducible repeat (first | refine blk_drewN ?_ _ | refine blk_drew ?_ | refine blk_alloc ?_ _)); refine blk_far ?_ NB251_254.out _; (with_reducible repeat (first | refine blk_drewN ?_ _ | refine blk_drew ?_ | refine blk_alloc ?_ _)); exact BK251.out) hb); have n1_ := am (blk_below (g := gb254) (o := .cells #[.int .i64 ((rd_T26 l0 x12_1).f0), .int .i64 ((rd_T26 l0 x12_1).f1)] 26 (0, 0)) (by (with_reducible repeat (first | refine blk_drewN ?_ _ | refine blk_drew ?_ | refine blk_alloc ?_ _)); refine blk_put (cs := #[.int .i64 ((rd_T26 l0 x12_1).f0), .int .i64 0]) ?_ 1 _ rfl; (with_reducible repeat (first | refine blk_drewN ?_ _ | refine blk_drew ?_ | refine blk_alloc ?_ _)); refine blk_put (cs := #[.int .i64 0, .int .i64 0]) ?_ 0 _ rfl; (with_reducible repeat (first | refine blk_drewN ?_ _ | refine blk_drew ?_ | refine blk_alloc ?_ _)); exact BK254.out) hb); have n2_ := am (below_step (bT HB.out) hb); clear BK251; clear BK254; clear HB; have BK251 := n0_; have BK254 := n1_; have HB := n2_; clear n0_ n1_ n2_; (try clear hb); (try clear hb2); (try clear hk); (try clear hi)))
                go_ret
                exact ⟨by first | rfl | (simp [errW_none, errW_some] <;> rfl) | (simp [*, errW_none, errW_some] <;> rfl), by exact bT HB.out⟩
            · rw [if_neg c9] at H
              exact absurd H (by simp)
          · rw [if_neg c8] at H
            exact absurd H (by simp)
        · rw [if_neg c7] at H
          have c7b0 : decide (x12_1 < (l0.length : Int)) = false := decide_eq_false c7
          clear c7
          obtain rfl := Option.some.inj H
          go_wp2
          go_ret
          exact ⟨by first | rfl | (simp [errW_none, errW_some] <;> rfl) | (simp [*, errW_none, errW_some] <;> rfl), by exact bT HB.out⟩
  · replace c4 := Bool.eq_false_iff.mpr c4
    subst c4
    have H1 : (some false) = some r := by first | (rw [if_neg (show ¬ (false = true) by decide)] at H; exact H) | rfl
    clear H
    have H := H1
    clear H1
    obtain rfl := Option.some.inj H
    go_enter Try.func39, Try.ntmps39
    go_wp2_with (first | ((with_reducible refine gate_dst (N := 3) rfl ?_); refine gX 3 #[.int .i64 a1_0, .int .i64 a1_1] 26 ?_; intro gb251 hg w22 hbox hb; have n0_ := am (below_step (bY HB.out) hb); have n1_ := am (hbox); have n2_ := am (gZ hg (bY HB.out)); have n3_ := am (gZ hg (bY HB.out)); clear HB; have HB := n0_; have BK251 := n1_; have GW251 := n2_; have GE251 := n3_; clear n0_ n1_ n2_ n3_; clear hb hbox hg) | ((with_reducible refine gate_callee (f := 59) rfl ?_); refine gC (some 8) Try.func59 #[.slice A0 l0.length c0] ?_; (with_reducible refine (spec_biGood.calls k _ _ l0 false _ ?side1 ?side2 A3.out).mono ?_); (case side1 => exact cY (Kd.C_below HR0.out HB.out)); (case side2 => exact HC0.out); rintro e w23 ⟨rfl, hb⟩; refine ⟨_, rfl, ?_⟩; have n0_ := am (blk_below (bQ BK251.out) hb); have n1_ := am (below_step (bT HB.out) hb); clear BK251; clear HB; have BK251 := n0_; have HB := n1_; clear n0_ n1_; (try clear hb); (try clear hb2); (try clear hk); (try clear hi)))
    go_ret
    exact ⟨by first | rfl | (simp [errW_none, errW_some] <;> rfl) | (simp [*, errW_none, errW_some] <;> rfl), by exact bT HB.out⟩

/-! ### spec_biBack: function 40 -/
def spec_biBack.f (a0 : Int) : Option (Int × Int × Bool) := (spec_l1In.f a0 0 1095364).bind fun t257 => (if t257 = true then (some (wrap64 (Int.tdiv a0 365), wrap64 ((Int.tmod a0 365) + 1), true)) else (some (0, 0, false)))
set_option maxHeartbeats 8000000 in
set_option maxRecDepth 100000 in
theorem spec_biBack.calls (a0 : Int) (r1 : Int) (r2 : Int) (r3 : Bool) (w : World) (h : spec_biBack.f a0 = some (r1, r2, r3)) :
    Calls Try.prog 40 #[.int .i64 a0] w fun e w' => e = .returned (.tuple #[.agg #[.int .i64 r1, .int .i64 r2], .bool r3]) ∧ Below w.heap.size w w' := by
  have hu26 := Try.underlying26
  have HB := am (Below.refl w.heap.size w)
  have H : ((spec_l1In.f a0 0 1095364).bind fun t257 => (if t257 = true then (some (wrap64 (Int.tdiv a0 365), wrap64 ((Int.tmod a0 365) + 1), true)) else (some (0, 0, false)))) = some (r1, r2, r3) := h
  clear h
  replace H := Option.bind_eq_some_iff.mp H
  obtain ⟨t257, A20, H⟩ := H
  replace H : (if t257 = true then (some (wrap64 (Int.tdiv a0 365), wrap64 ((Int.tmod a0 365) + 1), true)) else (some (0, 0, false))) = some (r1, r2, r3) := H
  have A2 := am A20
  clear A20
  by_cases c3 : t257 = true
  · subst c3
    have H1 : (some (wrap64 (Int.tdiv a0 365), wrap64 ((Int.tmod a0 365) + 1), true)) = some (r1, r2, r3) := by first | (rw [if_pos rfl] at H; exact H) | rfl
    clear H
    have H := H1
    clear H1
    simp only [Option.some.injEq, Prod.mk.injEq] at H
    obtain ⟨rfl, rfl, rfl⟩ := H
    go_enter Try.func40, Try.ntmps40
    go_wp2_with (first | ((with_reducible refine gate_dst (N := 2) rfl ?_); refine gX 2 #[.int .i64 0, .int .i64 0] 26 ?_; intro gb256 hg w4 hbox hb; have n0_ := am (below_step (bY HB.out) hb); have n1_ := am (hbox); have n2_ := am (gZ hg (bY HB.out)); have n3_ := am (gZ hg (bY HB.out)); clear HB; have HB := n0_; have BK256 := n1_; have GW256 := n2_; have GE256 := n3_; clear n0_ n1_ n2_ n3_; clear hb hbox hg) | ((with_reducible refine gate_callee (f := 53) rfl ?_); refine gC (some 5) Try.func53 #[.int .i64 a0, .int .i64 0, .int .i64 1095364] ?_; (with_reducible refine (spec_l1In.calls a0 0 1095364 true _ A2.out).mono ?_); rintro e w' ⟨rfl, ⟨nd, rfl⟩⟩; refine ⟨_, rfl, ?_⟩; (try (rw [drewN_self w4]; generalize hq_ : World.drewN w4 _ = w4; have n0_ : Aside0 (w4.heap[gb256]? = some (.cells #[.int .i64 0, .int .i64 0] 26 (0, 0))) := ⟨by rw [← hq_]; exact (bQ BK256.out)⟩; have n1_ : Aside0 (Below w.heap.size w w4) := ⟨by rw [← hq_]; exact (bT HB.out)⟩; clear BK256 HB hq_; have BK256 := n0_; have HB := n1_; clear n0_ n1_)); have hcz5_0 : w4.cell? ⟨gb256, 0, none⟩ = some (.int .i64 0) := (blk_cell BK256.out 0).trans rfl; have hcz5_1 : w4.cell? ⟨gb256, 1, none⟩ = some (.int .i64 0) := (blk_cell BK256.out 1).trans rfl; have hfz5_0 := blk_frozen BK256.out 0; have hfz5_1 := blk_frozen BK256.out 1))
    refine bodyPost_ret (results_ct rfl _ _ gb256 26 #[.int .i64 (wrap64 (Int.tdiv a0 365)), .int .i64 (wrap64 ((Int.tmod a0 365) + 1))] (0, 0) _ rfl (by (with_reducible repeat (first | refine blk_drewN ?_ _ | refine blk_drew ?_ | refine blk_alloc ?_ _)); refine blk_put (cs := #[.int .i64 (wrap64 (Int.tdiv a0 365)), .int .i64 0]) ?_ 1 _ rfl; (with_reducible repeat (first | refine blk_drewN ?_ _ | refine blk_drew ?_ | refine blk_alloc ?_ _)); refine blk_put (cs := #[.int .i64 0, .int .i64 0]) ?_ 0 _ rfl; (with_reducible repeat (first | refine blk_drewN ?_ _ | refine blk_drew ?_ | refine blk_alloc ?_ _)); exact BK256.out) Try.underlying26 rfl (by kernel_rfl)) rfl ?_
    exact ⟨by first | rfl | (simp [errW_none, errW_some] <;> rfl) | (simp [*, errW_none, errW_some] <;> rfl), by exact bT HB.out⟩
  · replace c3 := Bool.eq_false_iff.mpr c3
    subst c3
    have H1 : (some (0, 0, false)) = some (r1, r2, r3) := by first | (rw [if_neg (show ¬ (false = true) by decide)] at H; exact H) | rfl
    clear H
    have H := H1
    clear H1
    simp only [Option.some.injEq, Prod.mk.injEq] at H
    obtain ⟨rfl, rfl, rfl⟩ := H
    go_enter Try.func40, Try.ntmps40
    go_wp2_with (first | ((with_reducible refine gate_dst (N := 2) rfl ?_); refine gX 2 #[.int .i64 0, .int .i64 0] 26 ?_; intro gb256 hg w6 hbox hb; have n0_ := am (below_step (bY HB.out) hb); have n1_ := am (hbox); have n2_ := am (gZ hg (bY HB.out)); have n3_ := am (gZ hg (bY HB.out)); clear HB; have HB := n0_; have BK256 := n1_; have GW256 := n2_; have GE256 := n3_; clear n0_ n1_ n2_ n3_; clear hb hbox hg) | ((with_reducible refine gate_callee (f := 53) rfl ?_); refine gC (some 5) Try.func53 #[.int .i64 a0, .int .i64 0, .int .i64 1095364] ?_; (with_reducible refine (spec_l1In.calls a0 0 1095364 false _ A2.out).mono ?_); rintro e w' ⟨rfl, ⟨nd, rfl⟩⟩; refine ⟨_, rfl, ?_⟩; (try (rw [drewN_self w6]; generalize hq_ : World.drewN w6 _ = w6; have n0_ : Aside0 (w6.heap[gb256]? = some (.cells #[.int .i64 0, .int .i64 0] 26 (0, 0))) := ⟨by rw [← hq_]; exact (bQ BK256.out)⟩; have n1_ : Aside0 (Below w.heap.size w w6) := ⟨by rw [← hq_]; exact (bT HB.out)⟩; clear BK256 HB hq_; have BK256 := n0_; have HB := n1_; clear n0_ n1_)); have hcz7_0 : w6.cell? ⟨gb256, 0, none⟩ = some (.int .i64 0) := (blk_cell BK256.out 0).trans rfl; have hcz7_1 : w6.cell? ⟨gb256, 1, none⟩ = some (.int .i64 0) := (blk_cell BK256.out 1).trans rfl; have hfz7_0 := blk_frozen BK256.out 0; have hfz7_1 := blk_frozen BK256.out 1))
    refine bodyPost_ret (results_ct rfl _ _ gb256 26 #[.int .i64 0, .int .i64 0] (0, 0) _ rfl (by (with_reducible repeat (first | refine blk_drewN ?_ _ | refine blk_drew ?_ | refine blk_alloc ?_ _)); refine blk_put (cs := #[.int .i64 0, .int .i64 0]) ?_ 1 _ rfl; (with_reducible repeat (first | refine blk_drewN ?_ _ | refine blk_drew ?_ | refine blk_alloc ?_ _)); refine blk_put (cs := #[.int .i64 0, .int .i64 0]) ?_ 0 _ rfl; (with_reducible repeat (first | refine blk_drewN ?_ _ | refine blk_drew ?_ | refine blk_alloc ?_ _)); exact BK256.out) Try.underlying26 rfl (by kernel_rfl)) rfl ?_
    exact ⟨by first | rfl | (simp [errW_none, errW_some] <;> rfl) | (simp [*, errW_none, errW_some] <;> rfl), by exact bT HB.out⟩

/-! ### spec_biOf: function 42 -/
def spec_biOf.l0 : Nat → List Int → List (S26) → Int → Int → Int → Int → Option (List Int)
  | 0, _, _, _, _, _, _ => none
  | k + 1, x5, x8, x9, x10, x259000, x259001 => if x10 < x9 then (if 0 ≤ x10 then (if x10 < (x8.length : Int) then (if ((rd_T26 x8 x10).f1) = x259001 then (if ((rd_T26 x8 x10).f0) < x259000 then (if x5.length < 17592186044416 then (spec_biOf.l0 k (x5 ++ [x10]) x8 x9 (wrap64 (x10 + 1)) x259000 x259001) else (none)) else (spec_biOf.l0 k x5 x8 x9 (wrap64 (x10 + 1)) x259000 x259001)) else (spec_biOf.l0 k x5 x8 x9 (wrap64 (x10 + 1)) x259000 x259001)) else (none)) else (none)) else (some x5)
def spec_biOf.f (k : Nat) (l0 : List (S26)) (a1_0 : Int) (a1_1 : Int) : Option (List Int) := spec_biOf.l0 k ([] : List Int) l0 (l0.length : Int) 0 a1_0 a1_1
theorem spec_biOf.mono_l : ∀ k, (∀ y0 y1 y2 y3 y4 y5, LeO (spec_biOf.l0 k y0 y1 y2 y3 y4 y5) (spec_biOf.l0 (k + 1) y0 y1 y2 y3 y4 y5))
  | 0 => fun _ _ _ _ _ _ r h => by simp [spec_biOf.l0] at h
  | k + 1 => by
    have ih0 := spec_biOf.mono_l k
    · intro y0 y1 y2 y3 y4 y5
      unfold spec_biOf.l0
      repeat' first
      | (with_reducible exact ih0 _ _ _ _ _ _)
      | (with_reducible exact LeO.refl _)
      | (with_reducible exact LeO.none _)
      | (with_reducible refine LeO.ite ?_ ?_)
      | (with_reducible refine LeO.bind ?_ (fun _ => ?_))
      | exact ih0 _ _ _ _ _ _
      | exact LeO.none _
      | refine LeO.ite ?_ ?_
      | refine LeO.bind ?_ (fun _ => ?_)
theorem spec_biOf.mono : ∀ a0 a1 a2 k, LeO (spec_biOf.f k a0 a1 a2) (spec_biOf.f (k + 1) a0 a1 a2) := by
  intro a0 a1 a2 k
  have ih0 := spec_biOf.mono_l k
  unfold spec_biOf.f
  repeat' first
      | (with_reducible exact ih0 _ _ _ _ _ _)
      | (with_reducible exact LeO.refl _)
      | (with_reducible exact LeO.none _)
      | (with_reducible refine LeO.ite ?_ ?_)
      | (with_reducible refine LeO.bind ?_ (fun _ => ?_))
      | exact ih0 _ _ _ _ _ _
      | exact LeO.none _
      | refine LeO.ite ?_ ?_
      | refine LeO.bind ?_ (fun _ => ?_)
set_option maxHeartbeats 8000000 in
set_option maxRecDepth 100000 in
theorem spec_biOf.calls (k : Nat) (A0 : Option Addr) (c0 : Nat) (l0 : List (S26)) (a1_0 : Int) (a1_1 : Int) (r : List Int) (w : World) (hr0 : Kd.C k26 w A0 l0.length l0) (hc0 : l0.length ≤ c0) (h : spec_biOf.f k l0 a1_0 a1_1 = some r) :
    Calls Try.prog 42 #[.slice A0 l0.length c0, .agg #[.int .i64 a1_0, .int .i64 a1_1]] w fun e w' => ∃ v0_ : Value, e = .returned (v0_) ∧ Kd.R (Kd.int .i64) 3 w' w.heap.size (fun _ => True) v0_ r ∧ Below w.heap.size w w' := by
  have hu26 := Try.underlying26
  have HR0 := am hr0
  have HC0 := am hc0
  clear hr0 hc0
  have HB := am (Below.refl w.heap.size w)
  have H : (spec_biOf.l0 k ([] : List Int) l0 (l0.length : Int) 0 a1_0 a1_1) = some r := h
  clear h
  have H' := am H
  clear H
  go_enter Try.func42, Try.ntmps42
  go_wp2_with (first | ((with_reducible refine gate_dst (N := 3) rfl ?_); refine gX 3 #[.int .i64 a1_0, .int .i64 a1_1] 26 ?_; intro gb258 hg w3 hbox hb; have n0_ := am (below_step (bY HB.out) hb); have n1_ := am (hbox); have n2_ := am (gZ hg (bY HB.out)); have n3_ := am (gZ hg (bY HB.out)); clear HB; have HB := n0_; have BK258 := n1_; have GW258 := n2_; have GE258 := n3_; clear n0_ n1_ n2_ n3_; clear hb hbox hg))
  go_loopg [5, 10] k (fun kq v5 v10 w' => ∃ (x5_1 : List Int) (x10_1 : Int), v10 = .int .i64 x10_1 ∧ Aside0 (spec_biOf.l0 kq x5_1 l0 (l0.length : Int) x10_1 a1_0 a1_1 = some r) ∧ Aside0 (kq ≤ k) ∧ Aside0 (Kd.R (Kd.int .i64) 3 w' w.heap.size (fun _ => True) v5 x5_1) ∧ Aside0 (w'.heap[gb258]? = some (.cells #[.int .i64 a1_0, .int .i64 a1_1] 26 (0, 0))) ∧ Aside0 (Below w.heap.size w w'))
  case atStart => exact ⟨(([] : List Int)), (0), (by first | rfl | (simp; done) | (simp [*]; done)), H', ⟨Nat.le_refl _⟩, ⟨by first | exact Kd.R_nil _ _ _ _ _ | exact Kd.N_nil _ _ _ _ _ | exact Kd.V_nil _ _ _ _ _ | exact Kd.Q_nil _ _ _ _ _ | exact Kd.S_nil _ _ _ _ _⟩, ⟨by (with_reducible repeat (first | refine blk_drewN ?_ _ | refine blk_drew ?_ | refine blk_alloc ?_ _)); exact BK258.out⟩, ⟨by exact bT HB.out⟩⟩
  case round =>
    clear H'
    try clear p2
    obtain ⟨x5_1, x10_1, rfl, HA, HK1, HO_5, BK258, HB⟩ := hrel
    cases gk with
    | zero => exact absurd HA.out (by simp [spec_biOf.l0])
    | succ k1 =>
      have H := HA.out
      clear HA
      simp only [spec_biOf.l0] at H
      by_cases c4 : x10_1 < (l0.length : Int)
      · rw [if_pos c4] at H
        have c4b0 : decide (x10_1 < (l0.length : Int)) = true := decide_eq_true c4
        clear c4
        by_cases c5 : 0 ≤ x10_1
        · rw [if_pos c5] at H
          have c5b0 : decide (0 ≤ x10_1) = true := decide_eq_true c5
          clear c5
          by_cases c6 : x10_1 < (l0.length : Int)
          · rw [if_pos c6] at H
            have c6b0 : decide (x10_1 < (l0.length : Int)) = true := decide_eq_true c6
            clear c6
            by_cases c7 : ((rd_T26 l0 x10_1).f1) = a1_1
            · rw [if_pos c7] at H
              have c7b0 : (((rd_T26 l0 x10_1).f1) == a1_1) = true := beq_iff_eq.mpr c7
              have c7b1 : (((rd_T26 l0 x10_1).f1) != a1_1) = false := bne_eq_false_iff_eq.mpr c7
              clear c7
              by_cases c8 : ((rd_T26 l0 x10_1).f0) < a1_0
              · rw [if_pos c8] at H
                have c8b0 : decide (((rd_T26 l0 x10_1).f0) < a1_0) = true := decide_eq_true c8
                clear c8
                by_cases c9 : x5_1.length < 17592186044416
                · rw [if_pos c9] at H
                  have LMc9 := am c9
                  clear c9
                  obtain ⟨y261, hy261⟩ : ∃ y_ : List Int, y_ = (x5_1 ++ [x10_1]) := ⟨_, rfl⟩
                  replace H : (spec_biOf.l0 k1 y261 l0 (l0.length : Int) (wrap64 (x10_1 + 1)) a1_0 a1_1) = some r := by first | (rw [hy261]; with_reducible exact H) | (have H2_ := (Option.bind_some _ _).symm.trans H; rw [hy261]; with_reducible exact H2_) | (have H2_ := (Option.bind_some _ _).symm.trans H; with_reducible exact H2_) | with_reducible exact H | (rw [hy261]; exact H) | exact H
                  have Ny261 := am hy261
                  clear hy261
                  have H' := am H
                  clear H
                  have p259 : 0 ≤ (x10_1 : Int) := of_decide_eq_true (by first | (with_reducible assumption) | assumption)
                  have q259 : x10_1 < (l0.length : Int) := of_decide_eq_true (by first | (with_reducible assumption) | assumption)
                  obtain ⟨ad259, e259, hx259_0, hx259_1⟩ := at_T26 HR0.out x10_1 p259 q259
                  cases e259
                  replace hx259_0 := (HB.out.cell (World.block_lt_of_cell? w _ hx259_0)).trans hx259_0
                  replace hx259_1 := (HB.out.cell (World.block_lt_of_cell? w _ hx259_1)).trans hx259_1
                  replace p259 := eq_true p259
                  replace q259 := eq_true q259
                  go_wp2_with (first | ((with_reducible refine gate_dst (N := 7) rfl ?_); refine gX 7 #[.int .i64 0, .int .i64 0] 26 ?_; intro gb260 hg w10 hbox hb; have n0_ := am (Kd.R_below (rR HO_5.out) hb); have n1_ := am (blk_below (bQ BK258.out) hb); have n2_ := am (below_step (bT HB.out) hb); have n3_ := am (hbox); have n4_ := am (gZ hg (bT HB.out)); have n5_ := am (gZ hg (bT HB.out)); have n6_ := am (gL hg (bQ BK258.out)); have n7_ := am (gG hg (bQ BK258.out)); clear HO_5; clear BK258; clear HB; have HO_5 := n0_; have BK258 := n1_; have HB := n2_; have BK260 := n3_; have GW260 := n4_; have GE260 := n5_; have NB258_260 := n6_; have NB260_258 := n7_; clear n0_ n1_ n2_ n3_ n4_ n5_ n6_ n7_; clear hb hbox hg; have hnb11 := NB260_258.out; have hnc11 := NB258_260.out; have hcz12_0 : w10.cell? ⟨gb260, 0, none⟩ = some (.int .i64 0) := (blk_cell BK260.out 0).trans rfl; have hcz12_1 : w10.cell? ⟨gb260, 1, none⟩ = some (.int .i64 0) := (blk_cell BK260.out 1).trans rfl; have hfz12_0 := blk_frozen BK260.out 0; have hfz12_1 := blk_frozen BK260.out 1; have hcz13_0 : w10.cell? ⟨gb258, 0, none⟩ = some (.int .i64 a1_0) := (blk_cell BK258.out 0).trans rfl; have hcz13_1 : w10.cell? ⟨gb258, 1, none⟩ = some (.int .i64 a1_1) := (blk_cell BK258.out 1).trans rfl; have hfz13_0 := blk_frozen BK258.out 0; have hfz13_1 := blk_frozen BK258.out 1) | ((with_reducible refine gate_builtin (b := .append) (xs := #[.tmp 27, .tmp 29]) rfl ?_); at_builtin; refine Kd.R_append (Kd.int .i64) (w0 := w) w.heap.size rfl (.tmp 27) (.tmp 29) 29 3 (.int .i64 0) 8 rfl Try.underlying29 info3 rfl (by decide) (by omega) u5 x5_1 x10_1 [.int .i64 x10_1] (fun _ => True) (fun _ => False) rfl (by first | (go_simp; done) | (go_simp; rfl)) ?aP (fun _ hk => hk.elim) ?aF ?aO ?aB ?aS ?aL ?_; (case aP => exact rfl); (case aB => exact (bT HB.out)); (case aF => exact (fun _ _ => trivial)); (case aO => exact (by (with_reducible repeat (first | apply Kd.R_alloc | apply Kd.R_drewN | apply Kd.R_drew)); exact Kd.R_mono (Kd.R_far (p := ⟨gb260, 1, none⟩) (Kd.R_far (p := ⟨gb260, 0, none⟩) (Kd.R_types HO_5.out BK260.out (by decide)) (fun _ hk => hk.2) (.int .i64 ((rd_T26 l0 x10_1).f0))) (fun _ hk => hk.2) (.int .i64 ((rd_T26 l0 x10_1).f1))) (fun _ hk => trivial))); (case aS => exact (below_size (bT HB.out))); (case aL => have := LMc9.out; omega); intro v262 w14 ho hb hg hat; rw [← Ny261.out] at ho; have n0_ := am (blk_grown (g := gb258) (o := .cells #[.int .i64 a1_0, .int .i64 a1_1] 26 (0, 0)) (by (with_reducible repeat (first | refine blk_drewN ?_ _ | refine blk_drew ?_ | refine blk_alloc ?_ _)); refine blk_far ?_ NB258_260.out _; (with_reducible repeat (first | refine blk_drewN ?_ _ | refine blk_drew ?_ | refine blk_alloc ?_ _)); refine blk_far ?_ NB258_260.out _; (with_reducible repeat (first | refine blk_drewN ?_ _ | refine blk_drew ?_ | refine blk_alloc ?_ _)); exact BK258.out) hg (Kd.R_ne HO_5.out BK258.out (by decide))); have n1_ := am (blk_grown (g := gb260) (o := .cells #[.int .i64 ((rd_T26 l0 x10_1).f0), .int .i64 ((rd_T26 l0 x10_1).f1)] 26 (0, 0)) (by (with_reducible repeat (first | refine blk_drewN ?_ _ | refine blk_drew ?_ | refine blk_alloc ?_ _)); refine blk_put (cs := #[.int .i64 ((rd_T26 l0 x10_1).f0), .int .i64 0]) ?_ 1 _ rfl; (with_reducible repeat (first | refine blk_drewN ?_ _ | refine blk_drew ?_ | refine blk_alloc ?_ _)); refine blk_put (cs := #[.int .i64 0, .int .i64 0]) ?_ 0 _ rfl; (with_reducible repeat (first | refine blk_drewN ?_ _ | refine blk_drew ?_ | refine blk_alloc ?_ _)); exact BK260.out) hg (Kd.R_ne HO_5.out BK260.out (by decide))); have n2_ := am (hb); have n3_ := am (ho); clear BK258; clear BK260; clear HB; clear HO_5; have BK258 := n0_; have BK260 := n1_; have HB := n2_; have HO263 := n3_; clear n0_ n1_ n2_ n3_; clear ho hb hg hat))
                  go_roundg k1
                  case measure => have := HK1.out; omega
                  case rel => exact ⟨(y261), (wrap64 (x10_1 + 1)), (by first | rfl | (simp; done) | (simp [*]; done)), H', ⟨by have := HK1.out; omega⟩, ⟨by (with_reducible repeat (first | apply Kd.R_alloc | apply Kd.R_drewN | apply Kd.R_drew)); exact HO263.out⟩, ⟨by (with_reducible repeat (first | refine blk_drewN ?_ _ | refine blk_drew ?_ | refine blk_alloc ?_ _)); exact BK258.out⟩, ⟨by exact bT HB.out⟩⟩
                · rw [if_neg c9] at H
                  exact absurd H (by simp)
              · rw [if_neg c8] at H
                have c8b0 : decide (((rd_T26 l0 x10_1).f0) < a1_0) = false := decide_eq_false c8
                clear c8
                have H' := am H
                clear H
                have p259 : 0 ≤ (x10_1 : Int) := of_decide_eq_true (by first | (with_reducible assumption) | assumption)
                have q259 : x10_1 < (l0.length : Int) := of_decide_eq_true (by first | (with_reducible assumption) | assumption)
                obtain ⟨ad259, e259, hx259_0, hx259_1⟩ := at_T26 HR0.out x10_1 p259 q259
                cases e259
                replace hx259_0 := (HB.out.cell (World.block_lt_of_cell? w _ hx259_0)).trans hx259_0
                replace hx259_1 := (HB.out.cell (World.block_lt_of_cell? w _ hx259_1)).trans hx259_1
                replace p259 := eq_true p259
                replace q259 := eq_true q259
                go_wp2_with (first | ((with_reducible refine gate_dst (N := 7) rfl ?_); refine gX 7 #[.int .i64 0, .int .i64 0] 26 ?_; intro gb260 hg w15 hbox hb; have n0_ := am (Kd.R_below (rR HO_5.out) hb); have n1_ := am (blk_below (bQ BK258.out) hb); have n2_ := am (below_step (bT HB.out) hb); have n3_ := am (hbox); have n4_ := am (gZ hg (bT HB.out)); have n5_ := am (gZ hg (bT HB.out)); have n6_ := am (gL hg (bQ BK258.out)); have n7_ := am (gG hg (bQ BK258.out)); clear HO_5; clear BK258; clear HB; have HO_5 := n0_; have BK258 := n1_; have HB := n2_; have BK260 := n3_; have GW260 := n4_; have GE260 := n5_; have NB258_260 := n6_; have NB260_258 := n7_; clear n0_ n1_ n2_ n3_ n4_ n5_ n6_ n7_; clear hb hbox hg; have hnb16 := NB260_258.out; have hnc16 := NB258_260.out; have hcz17_0 : w15.cell? ⟨gb260, 0, none⟩ = some (.int .i64 0) := (blk_cell BK260.out 0).trans rfl; have hcz17_1 : w15.cell? ⟨gb260, 1, none⟩ = some (.int .i64 0) := (blk_cell BK260.out 1).trans rfl; have hfz17_0 := blk_frozen BK260.out 0; have hfz17_1 := blk_frozen BK260.out 1; have hcz18_0 : w15.cell? ⟨gb258, 0, none⟩ = some (.int .i64 a1_0) := (blk_cell BK258.out 0).trans rfl; have hcz18_1 : w15.cell? ⟨gb258, 1, none⟩ = some (.int .i64 a1_1) := (blk_cell BK258.out 1).trans rfl; have hfz18_0 := blk_frozen BK258.out 0; have hfz18_1 := blk_frozen BK258.out 1))
                go_roundg k1
                case measure => have := HK1.out; omega
                case rel => exact ⟨(x5_1), (wrap64 (x10_1 + 1)), (by first | rfl | (simp; done) | (simp [*]; done)), H', ⟨by have := HK1.out; omega⟩, ⟨by (with_reducible repeat (first | apply Kd.R_alloc | apply Kd.R_drewN | apply Kd.R_drew)); exact Kd.R_mono (Kd.R_far (p := ⟨gb260, 1, none⟩) (Kd.R_far (p := ⟨gb260, 0, none⟩) (Kd.R_types HO_5.out BK260.out (by decide)) (fun _ hk => hk.2) (.int .i64 ((rd_T26 l0 x10_1).f0))) (fun _ hk => hk.2) (.int .i64 ((rd_T26 l0 x10_1).f1))) (fun _ hk => trivial)⟩, ⟨by (with_reducible repeat (first | refine blk_drewN ?_ _ | refine blk_drew ?_ | refine blk_alloc ?_ _)); refine blk_far ?_ NB258_260.out _; (with_reducible repeat (first | refine blk_drewN ?_ _ | refine blk_drew ?_ | refine blk_alloc ?_ _)); refine blk_far ?_ NB258_260.out _; (with_reducible repeat (first | refine blk_drewN ?_ _ | refine blk_drew ?_ | refine blk_alloc ?_ _)); exact BK258.out⟩, ⟨by exact bT HB.out⟩⟩
            · rw [if_neg c7] at H
              have c7b0 : (((rd_T26 l0 x10_1).f1) == a1_1) = false := beq_eq_false_iff_ne.mpr c7
              have c7b1 : (((rd_T26 l0 x10_1).f1) != a1_1) = true := bne_iff_ne.mpr c7
              have H' := am H
              clear H
              have p259 : 0 ≤ (x10_1 : Int) := of_decide_eq_true (by first | (with_reducible assumption) | assumption)
              have q259 : x10_1 < (l0.length : Int) := of_decide_eq_true (by first | (with_reducible assumption) | assumption)
              obtain ⟨ad259, e259, hx259_0, hx259_1⟩ := at_T26 HR0.out x10_1 p259 q259
              cases e259
              replace hx259_0 := (HB.out.cell (World.block_lt_of_cell? w _ hx259_0)).trans hx259_0
              replace hx259_1 := (HB.out.cell (World.block_lt_of_cell? w _ hx259_1)).trans hx259_1
              replace p259 := eq_true p259
              replace q259 := eq_true q259
              go_wp2_with (first | ((with_reducible refine gate_dst (N := 7) rfl ?_); refine gX 7 #[.int .i64 0, .int .i64 0] 26 ?_; intro gb260 hg w19 hbox hb; have n0_ := am (Kd.R_below (rR HO_5.out) hb); have n1_ := am (blk_below (bQ BK258.out) hb); have n2_ := am (below_step (bT HB.out) hb); have n3_ := am (hbox); have n4_ := am (gZ hg (bT HB.out)); have n5_ := am (gZ hg (bT HB.out)); have n6_ := am (gL hg (bQ BK258.out)); have n7_ := am (gG hg (bQ BK258.out)); clear HO_5; clear BK258; clear HB; have HO_5 := n0_; have BK258 := n1_; have HB := n2_; have BK260 := n3_; have GW260 := n4_; have GE260 := n5_; have NB258_260 := n6_; have NB260_258 := n7_; clear n0_ n1_ n2_ n3_ n4_ n5_ n6_ n7_; clear hb hbox hg; have hnb20 := NB260_258.out; have hnc20 := NB258_260.out; have hcz21_0 : w19.cell? ⟨gb260, 0, none⟩ = some (.int .i64 0) := (blk_cell BK260.out 0).trans rfl; have hcz21_1 : w19.cell? ⟨gb260, 1, none⟩ = some (.int .i64 0) := (blk_cell BK260.out 1).trans rfl; have hfz21_0 := blk_frozen BK260.out 0; have hfz21_1 := blk_frozen BK260.out 1; have hcz22_0 : w19.cell? ⟨gb258, 0, none⟩ = some (.int .i64 a1_0) := (blk_cell BK258.out 0).trans rfl; have hcz22_1 : w19.cell? ⟨gb258, 1, none⟩ = some (.int .i64 a1_1) := (blk_cell BK258.out 1).trans rfl; have hfz22_0 := blk_frozen BK258.out 0; have hfz22_1 := blk_frozen BK258.out 1))
              go_roundg k1
              case measure => have := HK1.out; omega
              case rel => exact ⟨(x5_1), (wrap64 (x10_1 + 1)), (by first | rfl | (simp; done) | (simp [*]; done)), H', ⟨by have := HK1.out; omega⟩, ⟨by (with_reducible repeat (first | apply Kd.R_alloc | apply Kd.R_drewN | apply Kd.R_drew)); exact Kd.R_mono (Kd.R_far (p := ⟨gb260, 1, none⟩) (Kd.R_far (p := ⟨gb260, 0, none⟩) (Kd.R_types HO_5.out BK260.out (by decide)) (fun _ hk => hk.2) (.int .i64 ((rd_T26 l0 x10_1).f0))) (fun _ hk => hk.2) (.int .i64 ((rd_T26 l0 x10_1).f1))) (fun _ hk => trivial)⟩, ⟨by (with_reducible repeat (first | refine blk_drewN ?_ _ | refine blk_drew ?_ | refine blk_alloc ?_ _)); refine blk_far ?_ NB258_260.out _; (with_reducible repeat (first | refine blk_drewN ?_ _ | refine blk_drew ?_ | refine blk_alloc ?_ _)); refine blk_far ?_ NB258_260.out _; (with_reducible repeat (first | refine blk_drewN ?_ _ | refine blk_drew ?_ | refine blk_alloc ?_ _)); exact BK258.out⟩, ⟨by exact bT HB.out⟩⟩
          · rw [if_neg c6] at H
            exact absurd H (by simp)
        · rw [if_neg c5] at H
          exact absurd H (by simp)
      · rw [if_neg c4] at H
        have c4b0 : decide (x10_1 < (l0.length : Int)) = false := decide_eq_false c4
        clear c4
        obtain rfl := Option.some.inj H
        go_wp2
        go_ret
        exact ⟨_, by first | rfl | (simp [errW_none, errW_some] <;> rfl) | (simp [*, errW_none, errW_some] <;> rfl), by (with_reducible repeat (first | apply Kd.R_alloc | apply Kd.R_drewN | apply Kd.R_drew)); exact HO_5.out, by exact bT HB.out⟩

/-! ### spec_NextBirthday: function 7 -/
def spec_NextBirthday.l0 : Nat → List (S26) → Int → Int → Int → Option (Int × Int × List Int × Bool)
  | 0, _, _, _, _ => none
  | k + 1, x0, x7, x265000, x265001 => if x7 ≤ 365 then ((spec_biDays.f x265000 x265001).bind fun t267 => ((spec_biBack.f (wrap64 (t267 + x7))).bind fun bt268 => (if bt268.2.2 = true then ((spec_biOf.f k x0 bt268.1 bt268.2.1).bind fun t272 => (if (t272.length : Int) > 0 then ((spec_biOf.f k x0 bt268.1 bt268.2.1).bind fun t275 => (some (bt268.1, bt268.2.1, t275, true))) else (spec_NextBirthday.l0 k x0 (wrap64 (x7 + 1)) x265000 x265001))) else (spec_NextBirthday.l0 k x0 (wrap64 (x7 + 1)) x265000 x265001)))) else (some (0, 0, ([] : List Int), false))
def spec_NextBirthday.f (k : Nat) (l0 : List (S26)) (a1_0 : Int) (a1_1 : Int) : Option (Int × Int × List Int × Bool) := (spec_biAll.f k l0 a1_0 a1_1).bind fun t266 => (if t266 = true then (spec_NextBirthday.l0 k l0 1 a1_0 a1_1) else (some (0, 0, ([] : List Int), false)))
theorem spec_NextBirthday.mono_l : ∀ k, (∀ y0 y1 y2 y3, LeO (spec_NextBirthday.l0 k y0 y1 y2 y3) (spec_NextBirthday.l0 (k + 1) y0 y1 y2 y3))
  | 0 => fun _ _ _ _ r h => by simp [spec_NextBirthday.l0] at h
  | k + 1 => by
    have ih0 := spec_NextBirthday.mono_l k
    · intro y0 y1 y2 y3
      unfold spec_NextBirthday.l0
      repeat' first
      | (with_reducible exact ih0 _ _ _ _)
      | (with_reducible exact spec_biAll.mono _ _ _ _)
      | (with_reducible exact spec_biOf.mono _ _ _ _)
      | (with_reducible exact LeO.refl _)
      | (with_reducible exact LeO.none _)
      | (with_reducible refine LeO.ite ?_ ?_)
      | (with_reducible refine LeO.bind ?_ (fun _ => ?_))
      | exact ih0 _ _ _ _
      | exact spec_biAll.mono _ _ _ _
      | exact spec_biOf.mono _ _ _ _
      | exact LeO.none _
      | refine LeO.ite ?_ ?_
      | refine LeO.bind ?_ (fun _ => ?_)
theorem spec_NextBirthday.mono : ∀ a0 a1 a2 k, LeO (spec_NextBirthday.f k a0 a1 a2) (spec_NextBirthday.f (k + 1) a0 a1 a2) := by
  intro a0 a1 a2 k
  have ih0 := spec_NextBirthday.mono_l k
  unfold spec_NextBirthday.f
  repeat' first
      | (with_reducible exact ih0 _ _ _ _)
      | (with_reducible exact spec_biAll.mono _ _ _ _)
      | (with_reducible exact spec_biOf.mono _ _ _ _)
      | (with_reducible exact LeO.refl _)
      | (with_reducible exact LeO.none _)
      | (with_reducible refine LeO.ite ?_ ?_)
      | (with_reducible refine LeO.bind ?_ (fun _ => ?_))
      | exact ih0 _ _ _ _
      | exact spec_biAll.mono _ _ _ _
      | exact spec_biOf.mono _ _ _ _
      | exact LeO.none _
      | refine LeO.ite ?_ ?_
      | refine LeO.bind ?_ (fun _ => ?_)
set_option maxHeartbeats 8000000 in
set_option maxRecDepth 100000 in
theorem spec_NextBirthday.calls (k : Nat) (A0 : Option Addr) (c0 : Nat) (l0 : List (S26)) (a1_0 : Int) (a1_1 : Int) (r1 : Int) (r2 : Int) (r3 : List Int) (r4 : Bool) (w : World) (hr0 : Kd.C k26 w A0 l0.length l0) (hc0 : l0.length ≤ c0) (h : spec_NextBirthday.f k l0 a1_0 a1_1 = some (r1, r2, r3, r4)) :
    Calls Try.prog 7 #[.slice A0 l0.length c0, .agg #[.int .i64 a1_0, .int .i64 a1_1]] w fun e w' => ∃ v2_ : Value, e = .returned (.tuple #[.agg #[.int .i64 r1, .int .i64 r2], v2_, .bool r4]) ∧ Kd.R (Kd.int .i64) 3 w' w.heap.size (fun _ => True) v2_ r3 ∧ Below w.heap.size w w' := by
  have hu26 := Try.underlying26
  have HR0 := am hr0
  have HC0 := am hc0
  clear hr0 hc0
  have HB := am (Below.refl w.heap.size w)
  have H : ((spec_biAll.f k l0 a1_0 a1_1).bind fun t266 => (if t266 = true then (spec_NextBirthday.l0 k l0 1 a1_0 a1_1) else (some (0, 0, ([] : List Int), false)))) = some (r1, r2, r3, r4) := h
  clear h
  replace H := Option.bind_eq_some_iff.mp H
  obtain ⟨t266, A30, H⟩ := H
  replace H : (if t266 = true then (spec_NextBirthday.l0 k l0 1 a1_0 a1_1) else (some (0, 0, ([] : List Int), false))) = some (r1, r2, r3, r4) := H
  have A3 := am A30
  clear A30
  by_cases c4 : t266 = true
  · subst c4
    have H1 : (spec_NextBirthday.l0 k l0 1 a1_0 a1_1) = some (r1, r2, r3, r4) := by first | (rw [if_pos rfl] at H; exact H) | rfl
    clear H
    have H := H1
    clear H1
    have H' := am H
    clear H
    go_enter Try.func7, Try.ntmps7
    go_wp2_with (first | ((with_reducible refine gate_dst (N := 3) rfl ?_); (try (refine gate_guard (by rfl) ?_; dsimp only)); refine gX 3 #[.int .i64 a1_0, .int .i64 a1_1] 26 ?_; intro gb264 hg w5 hbox hb; have n0_ := am (below_step (bY HB.out) hb); have n1_ := am (hbox); have n2_ := am (gZ hg (bY HB.out)); have n3_ := am (gZ hg (bY HB.out)); clear HB; have HB := n0_; have BK264 := n1_; have GW264 := n2_; have GE264 := n3_; clear n0_ n1_ n2_ n3_; clear hb hbox hg) | ((with_reducible refine gate_dst (N := 4) rfl ?_); (try (refine gate_guard (by rfl) ?_; dsimp only)); refine gX 4 #[.int .i64 0, .int .i64 0] 26 ?_; intro gb265 hg w6 hbox hb; have n0_ := am (blk_below (bQ BK264.out) hb); have n1_ := am (below_step (bT HB.out) hb); have n2_ := am (hbox); have n3_ := am (gZ hg (bT HB.out)); have n4_ := am (gZ hg (bT HB.out)); have n5_ := am (gL hg (bQ BK264.out)); have n6_ := am (gG hg (bQ BK264.out)); clear BK264; clear HB; have BK264 := n0_; have HB := n1_; have BK265 := n2_; have GW265 := n3_; have GE265 := n4_; have NB264_265 := n5_; have NB265_264 := n6_; clear n0_ n1_ n2_ n3_ n4_ n5_ n6_; clear hb hbox hg; have hnb7 := NB264_265.out; have hnc7 := NB265_264.out; have hcz8_0 : w6.cell? ⟨gb264, 0, none⟩ = some (.int .i64 a1_0) := (blk_cell BK264.out 0).trans rfl; have hcz8_1 : w6.cell? ⟨gb264, 1, none⟩ = some (.int .i64 a1_1) := (blk_cell BK264.out 1).trans rfl; have hfz8_0 := blk_frozen BK264.out 0; have hfz8_1 := blk_frozen BK264.out 1) | ((with_reducible refine gate_callee (f := 39) rfl ?_); refine gC (some 12) Try.func39 #[.slice A0 l0.length c0, .agg #[.int .i64 a1_0, .int .i64 a1_1]] ?_; (with_reducible refine (spec_biAll.calls k _ _ l0 a1_0 a1_1 true _ ?side1 ?side2 A3.out).mono ?_); (case side1 => exact cY (Kd.C_below HR0.out HB.out)); (case side2 => exact HC0.out); rintro e w9 ⟨rfl, hb⟩; refine ⟨_, rfl, ?_⟩; have n0_ := am (blk_below (bQ BK264.out) hb); have n1_ := am (blk_below (bQ BK265.out) hb); have n2_ := am (below_step (bT HB.out) hb); clear BK264; clear BK265; clear HB; have BK264 := n0_; have BK265 := n1_; have HB := n2_; clear n0_ n1_ n2_; (try clear hb); (try clear hb2); (try clear hk); (try clear hi)))
    go_loopg [7] k (fun kq v7 w' => ∃ (x7_1 : Int) (x266000_1 : Int) (x266001_1 : Int), v7 = .int .i64 x7_1 ∧ Aside0 (spec_NextBirthday.l0 kq l0 x7_1 a1_0 a1_1 = some (r1, r2, r3, r4)) ∧ Aside0 (kq ≤ k) ∧ Aside0 (w'.heap[gb264]? = some (.cells #[.int .i64 a1_0, .int .i64 a1_1] 26 (0, 0))) ∧ Aside0 (w'.heap[gb265]? = some (.cells #[.int .i64 x266000_1, .int .i64 x266001_1] 26 (0, 0))) ∧ Aside0 (Below w.heap.size w w'))
    case atStart => exact ⟨(1), (0), (0), (by first | rfl | (simp; done) | (simp [*]; done)), H', ⟨Nat.le_refl _⟩, ⟨by (with_reducible repeat (first | refine blk_drewN ?_ _ | refine blk_drew ?_ | refine blk_alloc ?_ _)); exact BK264.out⟩, ⟨by (with_reducible repeat (first | refine blk_drewN ?_ _ | refine blk_drew ?_ | refine blk_alloc ?_ _)); exact BK265.out⟩, ⟨by exact bT HB.out⟩⟩
    case round =>
      clear H'
      try clear p2
      try clear c3
      try clear c4
      try clear c7
      try clear hcz8_0
      try clear hcz8_1
      try clear hfz8_0
      try clear hfz8_1
      obtain ⟨x7_1, x266000_1, x266001_1, rfl, HA, HK1, BK264, BK265, HB⟩ := hrel
      cases gk with
      | zero => exact absurd HA.out (by simp [spec_NextBirthday.l0])
      | succ k1 =>
        have H := HA.out
        clear HA
        simp only [spec_NextBirthday.l0] at H
        by_cases c10 : x7_1 ≤ 365
        · rw [if_pos c10] at H
          have c10b0 : decide (x7_1 ≤ 365) = true := decide_eq_true c10
          clear c10
          replace H := Option.bind_eq_some_iff.mp H
          obtain ⟨t267, A110, H⟩ := H
          replace H : ((spec_biBack.f (wrap64 (t267 + x7_1))).bind fun bt268 => (if bt268.2.2 = true then ((spec_biOf.f k1 l0 bt268.1 bt268.2.1).bind fun t272 => (if (t272.length : Int) > 0 then ((spec_biOf.f k1 l0 bt268.1 bt268.2.1).bind fun t275 => (some (bt268.1, bt268.2.1, t275, true))) else (spec_NextBirthday.l0 k1 l0 (wrap64 (x7_1 + 1)) a1_0 a1_1))) else (spec_NextBirthday.l0 k1 l0 (wrap64 (x7_1 + 1)) a1_0 a1_1))) = some (r1, r2, r3, r4) := H
          have A11 := am A110
          clear A110
          replace H := Option.bind_eq_some_iff.mp H
          obtain ⟨⟨t268, t269, t270⟩, A120, H⟩ := H
          replace H : (if t270 = true then ((spec_biOf.f k1 l0 t268 t269).bind fun t272 => (if (t272.length : Int) > 0 then ((spec_biOf.f k1 l0 t268 t269).bind fun t275 => (some (t268, t269, t275, true))) else (spec_NextBirthday.l0 k1 l0 (wrap64 (x7_1 + 1)) a1_0 a1_1))) else (spec_NextBirthday.l0 k1 l0 (wrap64 (x7_1 + 1)) a1_0 a1_1)) = some (r1, r2, r3, r4) := H
          have A12 := am A120
          clear A120
          by_cases c13 : t270 = true
          · subst c13
            have H1 : ((spec_biOf.f k1 l0 t268 t269).bind fun t272 => (if (t272.length : Int) > 0 then ((spec_biOf.f k1 l0 t268 t269).bind fun t275 => (some (t268, t269, t275, true))) else (spec_NextBirthday.l0 k1 l0 (wrap64 (x7_1 + 1)) a1_0 a1_1))) = some (r1, r2, r3, r4) := by first | (rw [if_pos rfl] at H; exact H) | rfl
            clear H
            have H := H1
            clear H1
            replace H := Option.bind_eq_some_iff.mp H
            obtain ⟨t272, A140, H⟩ := H
            replace H : (if (t272.length : Int) > 0 then ((spec_biOf.f k1 l0 t268 t269).bind fun t275 => (some (t268, t269, t275, true))) else (spec_NextBirthday.l0 k1 l0 (wrap64 (x7_1 + 1)) a1_0 a1_1)) = some (r1, r2, r3, r4) := H
            have A14 := am A140
            clear A140
            by_cases c15 : (t272.length : Int) > 0
            · rw [if_pos c15] at H
              have c15b0 : decide (0 < (t272.length : Int)) = true := decide_eq_true c15
              have c15b1 : decide (0 < t272.length) = true := decide_eq_true (by omega)
              clear c15
              replace H := Option.bind_eq_some_iff.mp H
              obtain ⟨t275, A160, H⟩ := H
              replace H : (some (t268, t269, t275, true)) = some (r1, r2, r3, r4) := H
              have A16 := am A160
              clear A160
              simp only [Option.some.injEq, Prod.mk.injEq] at H
              obtain ⟨rfl, rfl, rfl, rfl⟩ := H
              have hnb17 := NB264_265.out
              have hnc17 := NB265_264.out
              have hcz18_0 : wr.cell? ⟨gb264, 0, none⟩ = some (.int .i64 a1_0) := (blk_cell BK264.out 0).trans rfl
              have hcz18_1 : wr.cell? ⟨gb264, 1, none⟩ = some (.int .i64 a1_1) := (blk_cell BK264.out 1).trans rfl
              have hfz18_0 := blk_frozen BK264.out 0
              have hfz18_1 := blk_frozen BK264.out 1
              try go_wp2_with (first | ((with_reducible refine gate_callee (f := 41) rfl ?_); refine gC (some 21) Try.func41 #[.agg #[.int .i64 a1_0, .int .i64 a1_1]] ?_; (with_reducible refine (spec_biDays.calls a1_0 a1_1 t267 _ A11.out).mono ?_); rintro e w19 ⟨rfl, hb⟩; refine ⟨_, rfl, ?_⟩; have n0_ := am (blk_below (bQ BK264.out) hb); have n1_ := am (blk_below (bQ BK265.out) hb); have n2_ := am (below_step (bT HB.out) hb); clear BK264; clear BK265; clear HB; have BK264 := n0_; have BK265 := n1_; have HB := n2_; clear n0_ n1_ n2_; (try clear hb); (try clear hb2); (try clear hk); (try clear hi)) | ((with_reducible refine gate_callee (f := 40) rfl ?_); refine gC (some 24) Try.func40 #[.int .i64 (wrap64 (t267 + x7_1))] ?_; (with_reducible refine (spec_biBack.calls (wrap64 (t267 + x7_1)) t268 t269 true _ A12.out).mono ?_); rintro e w20 ⟨rfl, hb⟩; refine ⟨_, rfl, ?_⟩; have n0_ := am (blk_below (bQ BK264.out) hb); have n1_ := am (blk_below (bQ BK265.out) hb); have n2_ := am (below_step (bT HB.out) hb); clear BK264; clear BK265; clear HB; have BK264 := n0_; have BK265 := n1_; have HB := n2_; clear n0_ n1_ n2_; (try clear hb); (try clear hb2); (try clear hk); (try clear hi)) | ((with_reducible refine gate_dst (N := 8) rfl ?_); (try (refine gate_guard (by rfl) ?_; dsimp only)); refine gX 8 #[.int .i64 0, .int .i64 0] 26 ?_; intro gb271 hg w21 hbox hb; have n0_ := am (blk_below (bQ BK264.out) hb); have n1_ := am (blk_below (bQ BK265.out) hb); have n2_ := am (below_step (bT HB.out) hb); have n3_ := am (hbox); have n4_ := am (gZ hg (bT HB.out)); have n5_ := am (gZ hg (bT HB.out)); have n6_ := am (gL hg (bQ BK264.out)); have n7_ := am (gG hg (bQ BK264.out)); have n8_ := am (gL hg (bQ BK265.out)); have n9_ := am (gG hg (bQ BK265.out)); clear BK264; clear BK265; clear HB; have BK264 := n0_; have BK265 := n1_; have HB := n2_; have BK271 := n3_; have GW271 := n4_; have GE271 := n5_; have NB264_271 := n6_; have NB271_264 := n7_; have NB265_271 := n8_; have NB271_265 := n9_; clear n0_ n1_ n2_ n3_ n4_ n5_ n6_ n7_ n8_ n9_; clear hb hbox hg; have hnb22 := NB271_264.out; have hnc22 := NB264_271.out; have hnb23 := NB271_265.out; have hnc23 := NB265_271.out; have hcz24_0 : w21.cell? ⟨gb271, 0, none⟩ = some (.int .i64 0) := (blk_cell BK271.out 0).trans rfl; have hcz24_1 : w21.cell? ⟨gb271, 1, none⟩ = some (.int .i64 0) := (blk_cell BK271.out 1).trans rfl; have hfz24_0 := blk_frozen BK271.out 0; have hfz24_1 := blk_frozen BK271.out 1) | (go_at_call 42; (with_reducible refine (spec_biOf.calls k1 _ _ l0 t268 t269 t272 _ ?side1 ?side2 A14.out).mono ?_); (case side1 => exact Kd.C_below HR0.out (bT HB.out)); (case side2 => exact HC0.out); rintro e w25 ⟨v273, rfl, ho0, hb⟩; have n0_ := am (Kd.R_lower ho0 (below_size (bT HB.out))); have n1_ := am (blk_below (g := gb264) (o := .cells #[.int .i64 a1_0, .int .i64 a1_1] 26 (0, 0)) (by (with_reducible repeat (first | refine blk_drewN ?_ _ | refine blk_drew ?_ | refine blk_alloc ?_ _)); refine blk_far ?_ NB264_271.out _; (with_reducible repeat (first | refine blk_drewN ?_ _ | refine blk_drew ?_ | refine blk_alloc ?_ _)); refine blk_far ?_ NB264_271.out _; (with_reducible repeat (first | refine blk_drewN ?_ _ | refine blk_drew ?_ | refine blk_alloc ?_ _)); exact BK264.out) hb); have n2_ := am (blk_below (g := gb265) (o := .cells #[.int .i64 x266000_1, .int .i64 x266001_1] 26 (0, 0)) (by (with_reducible repeat (first | refine blk_drewN ?_ _ | refine blk_drew ?_ | refine blk_alloc ?_ _)); refine blk_far ?_ NB265_271.out _; (with_reducible repeat (first | refine blk_drewN ?_ _ | refine blk_drew ?_ | refine blk_alloc ?_ _)); refine blk_far ?_ NB265_271.out _; (with_reducible repeat (first | refine blk_drewN ?_ _ | refine blk_drew ?_ | refine blk_alloc ?_ _)); exact BK265.out) hb); have n3_ := am (blk_below (g := gb271) (o := .cells #[.int .i64 t268, .int .i64 t269] 26 (0, 0)) (by (with_reducible repeat (first | refine blk_drewN ?_ _ | refine blk_drew ?_ | refine blk_alloc ?_ _)); refine blk_put (cs := #[.int .i64 t268, .int .i64 0]) ?_ 1 _ rfl; (with_reducible repeat (first | refine blk_drewN ?_ _ | refine blk_drew ?_ | refine blk_alloc ?_ _)); refine blk_put (cs := #[.int .i64 0, .int .i64 0]) ?_ 0 _ rfl; (with_reducible repeat (first | refine blk_drewN ?_ _ | refine blk_drew ?_ | refine blk_alloc ?_ _)); exact BK271.out) hb); have n4_ := am (below_step (bT HB.out) hb); clear BK264; clear BK265; clear BK271; clear HB; have HO274 := n0_; have BK264 := n1_; have BK265 := n2_; have BK271 := n3_; have HB := n4_; clear n0_ n1_ n2_ n3_ n4_; (try clear hb); (try clear hb2); (try clear hk); (try clear hi); (try clear ho0); obtain ⟨Ao26, co26, eo26⟩ := Kd.R_slice HO274.out; subst eo26))
              have n0_ := am (Kd.R_drew HO274.out)
              have n1_ := am (blk_drew BK264.out)
              have n2_ := am (blk_drew BK265.out)
              have n3_ := am (blk_drew BK271.out)
              have n4_ := am (below_drew1 HB.out)
              clear HO274
              clear BK264
              clear BK265
              clear BK271
              clear HB
              have HO274 := n0_
              have BK264 := n1_
              have BK265 := n2_
              have BK271 := n3_
              have HB := n4_
              clear n0_ n1_ n2_ n3_ n4_
              refine start_ (n := 7) (S := fun w' => w'.cell? ⟨gb271, 0, none⟩ = some (.int .i64 t268) ∧ w'.cell? ⟨gb271, 1, none⟩ = some (.int .i64 t269)) (ds := []) #[false, false, false, false, false, false, false] (by kernel_rfl) rfl rfl ⟨(blk_cell BK271.out 0).trans rfl, (blk_cell BK271.out 1).trans rfl⟩ (fun hHeld => ?_)
              generalize w25.drew = w27 at HO274 BK264 BK265 BK271 HB hHeld ⊢
              refine pure_ (i := 1) (N := some 36) (v := ?_) (a' := ?_) #[false, true, false, false, false, false, false] rfl rfl (by kernel_rfl) (fun _ _ _ h => h) (Or.inl ⟨by rfl, ?_⟩) ?_ ?_
              rotate_left
              · intro w'
                go_simp
                with_reducible rfl
              rotate_left
              · simp only [Act.put, List.setIfInBounds_toArray, List.set_cons_zero, List.set_cons_succ, i64_w, i32_w]
                rfl
              refine take_ (i := 0) (N := some 35) (v := ?_) (a' := ?_) #[true, true, false, false, false, false, false] rfl rfl (by kernel_rfl) (fun _ _ _ h => h) (Or.inl ⟨by rfl, ?_⟩) hHeld ?_ ?_
              rotate_left
              · rintro w' ⟨s0, s1⟩
                go_simp
                with_reducible rfl
              rotate_left
              · simp only [Act.put, List.setIfInBounds_toArray, List.set_cons_zero, List.set_cons_succ, i64_w, i32_w]
                rfl
              refine take_ (i := 2) (N := some 37) (v := ?_) (a' := ?_) #[true, true, true, false, false, false, false] rfl rfl (by kernel_rfl) (fun _ _ _ h => h) (Or.inl ⟨by rfl, ?_⟩) hHeld ?_ ?_
              rotate_left
              · rintro w' ⟨s0, s1⟩
                go_simp
                with_reducible rfl
              rotate_left
              · simp only [Act.put, List.setIfInBounds_toArray, List.set_cons_zero, List.set_cons_succ, i64_w, i32_w]
                rfl
              refine one_ (i := 3) (N := some 38) #[true, true, true, true, false, false, false] rfl rfl (by kernel_rfl) (by decide) (fun K hK => ?_)
              refine goes_ Try.func42 (by kernel_rfl) rfl #[.slice A0 l0.length c0, .agg #[.int .i64 t268, .int .i64 t269]] (by rfl) rfl rfl (by (try simp only [List.map_toArray, List.map_cons, List.map_nil]); first | done | rfl | (simp only [List.length_drop, List.length_take]; rfl)) ?_
              with_reducible refine (spec_biOf.calls k1 _ _ l0 t268 t269 t275 _ ?side1 ?side2 A16.out).mono ?_
              (case side1 => exact cY (Kd.C_below HR0.out HB.out))
              (case side2 => exact HC0.out)
              rintro e w28 ⟨v276, rfl, ho0, hb⟩
              refine ⟨_, rfl, ?_⟩
              have n0_ := am (Kd.R_elder' (rR HO274.out) (Kd.R_base ho0) hb)
              have n1_ := am (Kd.R_lower (Kd.R_new' ho0 (Kd.R_lt (rR HO274.out))) (below_size (bT HB.out)))
              have n2_ := am (blk_below (bQ BK264.out) hb)
              have n3_ := am (blk_below (bQ BK265.out) hb)
              have n4_ := am (blk_below (bQ BK271.out) hb)
              have n5_ := am (below_step (bT HB.out) hb)
              clear HO274
              clear BK264
              clear BK265
              clear BK271
              clear HB
              have HO274 := n0_
              have HO277 := n1_
              have BK264 := n2_
              have BK265 := n3_
              have BK271 := n4_
              have HB := n5_
              clear n0_ n1_ n2_ n3_ n4_ n5_
              (try clear hb)
              (try clear hb2)
              (try clear hk)
              (try clear hi)
              (try clear ho0)
              refine hK.out _ _ ⟨(blk_cell BK271.out 0).trans rfl, (blk_cell BK271.out 1).trans rfl⟩ (fun hHeld => ?_)
              clear hK K
              refine norm_ (a' := ?_) ?_ ?_
              rotate_left
              · show Act.put _ (some 38) _ = _
                simp only [Act.put, List.setIfInBounds_toArray, List.set_cons_zero, List.set_cons_succ, i64_w, i32_w]
                rfl
              refine one_ (i := 4) (N := none) #[true, true, true, true, true, false, false] rfl rfl (by kernel_rfl) (by decide) (fun K hK => ?_)
              have hs29 : w28.cell? ⟨gb265, 0, none⟩ = some (.int .i64 x266000_1) := (blk_cell BK265.out 0).trans rfl
              have hfs29 := blk_frozen BK265.out 0
              have hns29_0 := NB264_265.out
              have hns29_2 := NB271_265.out
              have hms29_0 := NB265_264.out
              have hms29_2 := NB265_271.out
              have hs30 : w28.cell? ⟨gb265, 1, none⟩ = some (.int .i64 x266001_1) := (blk_cell BK265.out 1).trans rfl
              have hfs30 := blk_frozen BK265.out 1
              have hns30_0 := NB264_265.out
              have hns30_2 := NB271_265.out
              have hms30_0 := NB265_264.out
              have hms30_2 := NB265_271.out
              refine skip_ (w1 := ?_) (by rfl) rfl ?_ ?_
              rotate_left
              · go_simp
                rfl
              refine hK.out _ _ ⟨((cell_far (p := ⟨gb265, _, none⟩) NB271_265.out _).trans (((cell_far (p := ⟨gb265, _, none⟩) NB271_265.out _).trans (hHeld.1)))), ((cell_far (p := ⟨gb265, _, none⟩) NB271_265.out _).trans (((cell_far (p := ⟨gb265, _, none⟩) NB271_265.out _).trans (hHeld.2))))⟩ (fun hHeld => ?_)
              clear hK K
              refine pure_ (i := 5) (N := some 5) (v := ?_) (a' := ?_) #[true, true, true, true, true, true, false] rfl rfl (by kernel_rfl) (fun _ _ _ h => h) (Or.inl ⟨by rfl, ?_⟩) ?_ ?_
              rotate_left
              · intro w'
                go_simp
                with_reducible rfl
              rotate_left
              · simp only [Act.put, List.setIfInBounds_toArray, List.set_cons_zero, List.set_cons_succ, i64_w, i32_w]
                rfl
              refine pure_ (i := 6) (N := some 6) (v := ?_) (a' := ?_) #[true, true, true, true, true, true, true] rfl rfl (by kernel_rfl) (fun _ _ _ h => h) (Or.inl ⟨by rfl, ?_⟩) ?_ ?_
              rotate_left
              · intro w'
                go_simp
                with_reducible rfl
              rotate_left
              · simp only [Act.put, List.setIfInBounds_toArray, List.set_cons_zero, List.set_cons_succ, i64_w, i32_w]
                rfl
              refine done_ (by kernel_rfl) ?_
              try go_wp2
              refine bodyPost_ret (results_ctt rfl _ _ gb265 26 #[.int .i64 t268, .int .i64 t269] (0, 0) _ rfl (by (with_reducible repeat (first | refine blk_drewN ?_ _ | refine blk_drew ?_ | refine blk_alloc ?_ _)); refine blk_put (cs := #[.int .i64 t268, .int .i64 x266001_1]) ?_ 1 _ rfl; (with_reducible repeat (first | refine blk_drewN ?_ _ | refine blk_drew ?_ | refine blk_alloc ?_ _)); refine blk_put (cs := #[.int .i64 x266000_1, .int .i64 x266001_1]) ?_ 0 _ rfl; (with_reducible repeat (first | refine blk_drewN ?_ _ | refine blk_drew ?_ | refine blk_alloc ?_ _)); exact BK265.out) Try.underlying26 rfl (by kernel_rfl)) rfl ?_
              exact ⟨_, by first | rfl | (simp [errW_none, errW_some] <;> rfl) | (simp [*, errW_none, errW_some] <;> rfl), by (with_reducible repeat (first | apply Kd.R_alloc | apply Kd.R_drewN | apply Kd.R_drew)); exact Kd.R_mono (Kd.R_far (p := ⟨gb265, 1, none⟩) (Kd.R_far (p := ⟨gb265, 0, none⟩) (Kd.R_types HO277.out BK265.out (by decide)) (fun _ hk => hk.2) (.int .i64 t268)) (fun _ hk => hk.2) (.int .i64 t269)) (fun _ hk => trivial), by exact bT HB.out⟩
            · rw [if_neg c15] at H
              have c15b0 : decide (0 < (t272.length : Int)) = false := decide_eq_false c15
              have c15b1 : decide (0 < t272.length) = false := decide_eq_false (by omega)
              clear c15
              have H' := am H
              clear H
              have hnb31 := NB264_265.out
              have hnc31 := NB265_264.out
              have hcz32_0 : wr.cell? ⟨gb264, 0, none⟩ = some (.int .i64 a1_0) := (blk_cell BK264.out 0).trans rfl
              have hcz32_1 : wr.cell? ⟨gb264, 1, none⟩ = some (.int .i64 a1_1) := (blk_cell BK264.out 1).trans rfl
              have hfz32_0 := blk_frozen BK264.out 0
              have hfz32_1 := blk_frozen BK264.out 1
              go_wp2_with (first | ((with_reducible refine gate_callee (f := 41) rfl ?_); refine gC (some 21) Try.func41 #[.agg #[.int .i64 a1_0, .int .i64 a1_1]] ?_; (with_reducible refine (spec_biDays.calls a1_0 a1_1 t267 _ A11.out).mono ?_); rintro e w33 ⟨rfl, hb⟩; refine ⟨_, rfl, ?_⟩; have n0_ := am (blk_below (bQ BK264.out) hb); have n1_ := am (blk_below (bQ BK265.out) hb); have n2_ := am (below_step (bT HB.out) hb); clear BK264; clear BK265; clear HB; have BK264 := n0_; have BK265 := n1_; have HB := n2_; clear n0_ n1_ n2_; (try clear hb); (try clear hb2); (try clear hk); (try clear hi)) | ((with_reducible refine gate_callee (f := 40) rfl ?_); refine gC (some 24) Try.func40 #[.int .i64 (wrap64 (t267 + x7_1))] ?_; (with_reducible refine (spec_biBack.calls (wrap64 (t267 + x7_1)) t268 t269 true _ A12.out).mono ?_); rintro e w34 ⟨rfl, hb⟩; refine ⟨_, rfl, ?_⟩; have n0_ := am (blk_below (bQ BK264.out) hb); have n1_ := am (blk_below (bQ BK265.out) hb); have n2_ := am (below_step (bT HB.out) hb); clear BK264; clear BK265; clear HB; have BK264 := n0_; have BK265 := n1_; have HB := n2_; clear n0_ n1_ n2_; (try clear hb); (try clear hb2); (try clear hk); (try clear hi)) | ((with_reducible refine gate_dst (N := 8) rfl ?_); (try (refine gate_guard (by rfl) ?_; dsimp only)); refine gX 8 #[.int .i64 0, .int .i64 0] 26 ?_; intro gb271 hg w35 hbox hb; have n0_ := am (blk_below (bQ BK264.out) hb); have n1_ := am (blk_below (bQ BK265.out) hb); have n2_ := am (below_step (bT HB.out) hb); have n3_ := am (hbox); have n4_ := am (gZ hg (bT HB.out)); have n5_ := am (gZ hg (bT HB.out)); have n6_ := am (gL hg (bQ BK264.out)); have n7_ := am (gG hg (bQ BK264.out)); have n8_ := am (gL hg (bQ BK265.out)); have n9_ := am (gG hg (bQ BK265.out)); clear BK264; clear BK265; clear HB; have BK264 := n0_; have BK265 := n1_; have HB := n2_; have BK271 := n3_; have GW271 := n4_; have GE271 := n5_; have NB264_271 := n6_; have NB271_264 := n7_; have NB265_271 := n8_; have NB271_265 := n9_; clear n0_ n1_ n2_ n3_ n4_ n5_ n6_ n7_ n8_ n9_; clear hb hbox hg; have hnb36 := NB271_264.out; have hnc36 := NB264_271.out; have hnb37 := NB271_265.out; have hnc37 := NB265_271.out; have hcz38_0 : w35.cell? ⟨gb271, 0, none⟩ = some (.int .i64 0) := (blk_cell BK271.out 0).trans rfl; have hcz38_1 : w35.cell? ⟨gb271, 1, none⟩ = some (.int .i64 0) := (blk_cell BK271.out 1).trans rfl; have hfz38_0 := blk_frozen BK271.out 0; have hfz38_1 := blk_frozen BK271.out 1) | (go_at_call 42; (with_reducible refine (spec_biOf.calls k1 _ _ l0 t268 t269 t272 _ ?side1 ?side2 A14.out).mono ?_); (case side1 => exact Kd.C_below HR0.out (bT HB.out)); (case side2 => exact HC0.out); rintro e w39 ⟨v273, rfl, ho0, hb⟩; have n0_ := am (Kd.R_lower ho0 (below_size (bT HB.out))); have n1_ := am (blk_below (g := gb264) (o := .cells #[.int .i64 a1_0, .int .i64 a1_1] 26 (0, 0)) (by (with_reducible repeat (first | refine blk_drewN ?_ _ | refine blk_drew ?_ | refine blk_alloc ?_ _)); refine blk_far ?_ NB264_271.out _; (with_reducible repeat (first | refine blk_drewN ?_ _ | refine blk_drew ?_ | refine blk_alloc ?_ _)); refine blk_far ?_ NB264_271.out _; (with_reducible repeat (first | refine blk_drewN ?_ _ | refine blk_drew ?_ | refine blk_alloc ?_ _)); exact BK264.out) hb); have n2_ := am (blk_below (g := gb265) (o := .cells #[.int .i64 x266000_1, .int .i64 x266001_1] 26 (0, 0)) (by (with_reducible repeat (first | refine blk_drewN ?_ _ | refine blk_drew ?_ | refine blk_alloc ?_ _)); refine blk_far ?_ NB265_271.out _; (with_reducible repeat (first | refine blk_drewN ?_ _ | refine blk_drew ?_ | refine blk_alloc ?_ _)); refine blk_far ?_ NB265_271.out _; (with_reducible repeat (first | refine blk_drewN ?_ _ | refine blk_drew ?_ | refine blk_alloc ?_ _)); exact BK265.out) hb); have n3_ := am (blk_below (g := gb271) (o := .cells #[.int .i64 t268, .int .i64 t269] 26 (0, 0)) (by (with_reducible repeat (first | refine blk_drewN ?_ _ | refine blk_drew ?_ | refine blk_alloc ?_ _)); refine blk_put (cs := #[.int .i64 t268, .int .i64 0]) ?_ 1 _ rfl; (with_reducible repeat (first | refine blk_drewN ?_ _ | refine blk_drew ?_ | refine blk_alloc ?_ _)); refine blk_put (cs := #[.int .i64 0, .int .i64 0]) ?_ 0 _ rfl; (with_reducible repeat (first | refine blk_drewN ?_ _ | refine blk_drew ?_ | refine blk_alloc ?_ _)); exact BK271.out) hb); have n4_ := am (below_step (bT HB.out) hb); clear BK264; clear BK265; clear BK271; clear HB; have HO274 := n0_; have BK264 := n1_; have BK265 := n2_; have BK271 := n3_; have HB := n4_; clear n0_ n1_ n2_ n3_ n4_; (try clear hb); (try clear hb2); (try clear hk); (try clear hi); (try clear ho0); obtain ⟨Ao40, co40, eo40⟩ := Kd.R_slice HO274.out; subst eo40))
              go_roundg k1
              case measure => have := HK1.out; omega
              case rel => exact ⟨(wrap64 (x7_1 + 1)), (x266000_1), (x266001_1), (by first | rfl | (simp; done) | (simp [*]; done)), H', ⟨by have := HK1.out; omega⟩, ⟨by (with_reducible repeat (first | refine blk_drewN ?_ _ | refine blk_drew ?_ | refine blk_alloc ?_ _)); exact BK264.out⟩, ⟨by (with_reducible repeat (first | refine blk_drewN ?_ _ | refine blk_drew ?_ | refine blk_alloc ?_ _)); exact BK265.out⟩, ⟨by exact bT HB.out⟩⟩
          · replace c13 := Bool.eq_false_iff.mpr c13
            subst c13
            have H1 : (spec_NextBirthday.l0 k1 l0 (wrap64 (x7_1 + 1)) a1_0 a1_1) = some (r1, r2, r3, r4) := by first | (rw [if_neg (show ¬ (false = true) by decide)] at H; exact H) | rfl
            clear H
            have H := H1
            clear H1
            have H' := am H
            clear H
            have hnb41 := NB264_265.out
            have hnc41 := NB265_264.out
            have hcz42_0 : wr.cell? ⟨gb264, 0, none⟩ = some (.int .i64 a1_0) := (blk_cell BK264.out 0).trans rfl
            have hcz42_1 : wr.cell? ⟨gb264, 1, none⟩ = some (.int .i64 a1_1) := (blk_cell BK264.out 1).trans rfl
            have hfz42_0 := blk_frozen BK264.out 0
            have hfz42_1 := blk_frozen BK264.out 1
            go_wp2_with (first | ((with_reducible refine gate_callee (f := 41) rfl ?_); refine gC (some 21) Try.func41 #[.agg #[.int .i64 a1_0, .int .i64 a1_1]] ?_; (with_reducible refine (spec_biDays.calls a1_0 a1_1 t267 _ A11.out).mono ?_); rintro e w43 ⟨rfl, hb⟩; refine ⟨_, rfl, ?_⟩; have n0_ := am (blk_below (bQ BK264.out) hb); have n1_ := am (blk_below (bQ BK265.out) hb); have n2_ := am (below_step (bT HB.out) hb); clear BK264; clear BK265; clear HB; have BK264 := n0_; have BK265 := n1_; have HB := n2_; clear n0_ n1_ n2_; (try clear hb); (try clear hb2); (try clear hk); (try clear hi)) | ((with_reducible refine gate_callee (f := 40) rfl ?_); refine gC (some 24) Try.func40 #[.int .i64 (wrap64 (t267 + x7_1))] ?_; (with_reducible refine (spec_biBack.calls (wrap64 (t267 + x7_1)) t268 t269 false _ A12.out).mono ?_); rintro e w44 ⟨rfl, hb⟩; refine ⟨_, rfl, ?_⟩; have n0_ := am (blk_below (bQ BK264.out) hb); have n1_ := am (blk_below (bQ BK265.out) hb); have n2_ := am (below_step (bT HB.out) hb); clear BK264; clear BK265; clear HB; have BK264 := n0_; have BK265 := n1_; have HB := n2_; clear n0_ n1_ n2_; (try clear hb); (try clear hb2); (try clear hk); (try clear hi)) | ((with_reducible refine gate_dst (N := 8) rfl ?_); (try (refine gate_guard (by rfl) ?_; dsimp only)); refine gX 8 #[.int .i64 0, .int .i64 0] 26 ?_; intro gb271 hg w45 hbox hb; have n0_ := am (blk_below (bQ BK264.out) hb); have n1_ := am (blk_below (bQ BK265.out) hb); have n2_ := am (below_step (bT HB.out) hb); have n3_ := am (hbox); have n4_ := am (gZ hg (bT HB.out)); have n5_ := am (gZ hg (bT HB.out)); have n6_ := am (gL hg (bQ BK264.out)); have n7_ := am (gG hg (bQ BK264.out)); have n8_ := am (gL hg (bQ BK265.out)); have n9_ := am (gG hg (bQ BK265.out)); clear BK264; clear BK265; clear HB; have BK264 := n0_; have BK265 := n1_; have HB := n2_; have BK271 := n3_; have GW271 := n4_; have GE271 := n5_; have NB264_271 := n6_; have NB271_264 := n7_; have NB265_271 := n8_; have NB271_265 := n9_; clear n0_ n1_ n2_ n3_ n4_ n5_ n6_ n7_ n8_ n9_; clear hb hbox hg; have hnb46 := NB271_264.out; have hnc46 := NB264_271.out; have hnb47 := NB271_265.out; have hnc47 := NB265_271.out; have hcz48_0 : w45.cell? ⟨gb271, 0, none⟩ = some (.int .i64 0) := (blk_cell BK271.out 0).trans rfl; have hcz48_1 : w45.cell? ⟨gb271, 1, none⟩ = some (.int .i64 0) := (blk_cell BK271.out 1).trans rfl; have hfz48_0 := blk_frozen BK271.out 0; have hfz48_1 := blk_frozen BK271.out 1))
            go_roundg k1
            case measure => have := HK1.out; omega
            case rel => exact ⟨(wrap64 (x7_1 + 1)), (x266000_1), (x266001_1), (by first | rfl | (simp; done) | (simp [*]; done)), H', ⟨by have := HK1.out; omega⟩, ⟨by (with_reducible repeat (first | refine blk_drewN ?_ _ | refine blk_drew ?_ | refine blk_alloc ?_ _)); refine blk_far ?_ NB264_271.out _; (with_reducible repeat (first | refine blk_drewN ?_ _ | refine blk_drew ?_ | refine blk_alloc ?_ _)); refine blk_far ?_ NB264_271.out _; (with_reducible repeat (first | refine blk_drewN ?_ _ | refine blk_drew ?_ | refine blk_alloc ?_ _)); exact BK264.out⟩, ⟨by (with_reducible repeat (first | refine blk_drewN ?_ _ | refine blk_drew ?_ | refine blk_alloc ?_ _)); refine blk_far ?_ NB265_271.out _; (with_reducible repeat (first | refine blk_drewN ?_ _ | refine blk_drew ?_ | refine blk_alloc ?_ _)); refine blk_far ?_ NB265_271.out _; (with_reducible repeat (first | refine blk_drewN ?_ _ | refine blk_drew ?_ | refine blk_alloc ?_ _)); exact BK265.out⟩, ⟨by exact bT HB.out⟩⟩
        · rw [if_neg c10] at H
          have c10b0 : decide (x7_1 ≤ 365) = false := decide_eq_false c10
          clear c10
          simp only [Option.some.injEq, Prod.mk.injEq] at H
          obtain ⟨rfl, rfl, rfl, rfl⟩ := H
          have hnb49 := NB265_264.out
          have hnc49 := NB264_265.out
          have hcz50_0 : wr.cell? ⟨gb265, 0, none⟩ = some (.int .i64 x266000_1) := (blk_cell BK265.out 0).trans rfl
          have hcz50_1 : wr.cell? ⟨gb265, 1, none⟩ = some (.int .i64 x266001_1) := (blk_cell BK265.out 1).trans rfl
          have hfz50_0 := blk_frozen BK265.out 0
          have hfz50_1 := blk_frozen BK265.out 1
          go_wp2
          refine bodyPost_ret (results_ctt rfl _ _ gb265 26 #[.int .i64 0, .int .i64 0] (0, 0) _ rfl (by (with_reducible repeat (first | refine blk_drewN ?_ _ | refine blk_drew ?_ | refine blk_alloc ?_ _)); refine blk_put (cs := #[.int .i64 0, .int .i64 x266001_1]) ?_ 1 _ rfl; (with_reducible repeat (first | refine blk_drewN ?_ _ | refine blk_drew ?_ | refine blk_alloc ?_ _)); refine blk_put (cs := #[.int .i64 x266000_1, .int .i64 x266001_1]) ?_ 0 _ rfl; (with_reducible repeat (first | refine blk_drewN ?_ _ | refine blk_drew ?_ | refine blk_alloc ?_ _)); exact BK265.out) Try.underlying26 rfl (by kernel_rfl)) rfl ?_
          exact ⟨_, by first | rfl | (simp [errW_none, errW_some] <;> rfl) | (simp [*, errW_none, errW_some] <;> rfl), by first | exact Kd.R_nil _ _ _ _ _ | exact Kd.N_nil _ _ _ _ _ | exact Kd.V_nil _ _ _ _ _ | exact Kd.Q_nil _ _ _ _ _ | exact Kd.S_nil _ _ _ _ _, by exact bT HB.out⟩
  · replace c4 := Bool.eq_false_iff.mpr c4
    subst c4
    have H1 : (some (0, 0, ([] : List Int), false)) = some (r1, r2, r3, r4) := by first | (rw [if_neg (show ¬ (false = true) by decide)] at H; exact H) | rfl
    clear H
    have H := H1
    clear H1
    simp only [Option.some.injEq, Prod.mk.injEq] at H
    obtain ⟨rfl, rfl, rfl, rfl⟩ := H
    go_enter Try.func7, Try.ntmps7
    go_wp2_with (first | ((with_reducible refine gate_dst (N := 3) rfl ?_); (try (refine gate_guard (by rfl) ?_; dsimp only)); refine gX 3 #[.int .i64 a1_0, .int .i64 a1_1] 26 ?_; intro gb264 hg w51 hbox hb; have n0_ := am (below_step (bY HB.out) hb); have n1_ := am (hbox); have n2_ := am (gZ hg (bY HB.out)); have n3_ := am (gZ hg (bY HB.out)); clear HB; have HB := n0_; have BK264 := n1_; have GW264 := n2_; have GE264 := n3_; clear n0_ n1_ n2_ n3_; clear hb hbox hg) | ((with_reducible refine gate_dst (N := 4) rfl ?_); (try (refine gate_guard (by rfl) ?_; dsimp only)); refine gX 4 #[.int .i64 0, .int .i64 0] 26 ?_; intro gb265 hg w52 hbox hb; have n0_ := am (blk_below (bQ BK264.out) hb); have n1_ := am (below_step (bT HB.out) hb); have n2_ := am (hbox); have n3_ := am (gZ hg (bT HB.out)); have n4_ := am (gZ hg (bT HB.out)); have n5_ := am (gL hg (bQ BK264.out)); have n6_ := am (gG hg (bQ BK264.out)); clear BK264; clear HB; have BK264 := n0_; have HB := n1_; have BK265 := n2_; have GW265 := n3_; have GE265 := n4_; have NB264_265 := n5_; have NB265_264 := n6_; clear n0_ n1_ n2_ n3_ n4_ n5_ n6_; clear hb hbox hg; have hnb53 := NB264_265.out; have hnc53 := NB265_264.out; have hcz54_0 : w52.cell? ⟨gb264, 0, none⟩ = some (.int .i64 a1_0) := (blk_cell BK264.out 0).trans rfl; have hcz54_1 : w52.cell? ⟨gb264, 1, none⟩ = some (.int .i64 a1_1) := (blk_cell BK264.out 1).trans rfl; have hfz54_0 := blk_frozen BK264.out 0; have hfz54_1 := blk_frozen BK264.out 1) | ((with_reducible refine gate_callee (f := 39) rfl ?_); refine gC (some 12) Try.func39 #[.slice A0 l0.length c0, .agg #[.int .i64 a1_0, .int .i64 a1_1]] ?_; (with_reducible refine (spec_biAll.calls k _ _ l0 a1_0 a1_1 false _ ?side1 ?side2 A3.out).mono ?_); (case side1 => exact cY (Kd.C_below HR0.out HB.out)); (case side2 => exact HC0.out); rintro e w55 ⟨rfl, hb⟩; refine ⟨_, rfl, ?_⟩; have n0_ := am (blk_below (bQ BK264.out) hb); have n1_ := am (blk_below (bQ BK265.out) hb); have n2_ := am (below_step (bT HB.out) hb); clear BK264; clear BK265; clear HB; have BK264 := n0_; have BK265 := n1_; have HB := n2_; clear n0_ n1_ n2_; (try clear hb); (try clear hb2); (try clear hk); (try clear hi); have hcz56_0 : w55.cell? ⟨gb265, 0, none⟩ = some (.int .i64 0) := (blk_cell BK265.out 0).trans rfl; have hcz56_1 : w55.cell? ⟨gb265, 1, none⟩ = some (.int .i64 0) := (blk_cell BK265.out 1).trans rfl; have hfz56_0 := blk_frozen BK265.out 0; have hfz56_1 := blk_frozen BK265.out 1))
    refine bodyPost_ret (results_ctt rfl _ _ gb265 26 #[.int .i64 0, .int .i64 0] (0, 0) _ rfl (by (with_reducible repeat (first | refine blk_drewN ?_ _ | refine blk_drew ?_ | refine blk_alloc ?_ _)); refine blk_put (cs := #[.int .i64 0, .int .i64 0]) ?_ 1 _ rfl; (with_reducible repeat (first | refine blk_drewN ?_ _ | refine blk_drew ?_ | refine blk_alloc ?_ _)); refine blk_put (cs := #[.int .i64 0, .int .i64 0]) ?_ 0 _ rfl; (with_reducible repeat (first | refine blk_drewN ?_ _ | refine blk_drew ?_ | refine blk_alloc ?_ _)); exact BK265.out) Try.underlying26 rfl (by kernel_rfl)) rfl ?_
    exact ⟨_, by first | rfl | (simp [errW_none, errW_some] <;> rfl) | (simp [*, errW_none, errW_some] <;> rfl), by first | exact Kd.R_nil _ _ _ _ _ | exact Kd.N_nil _ _ _ _ _ | exact Kd.V_nil _ _ _ _ _ | exact Kd.Q_nil _ _ _ _ _ | exact Kd.S_nil _ _ _ _ _, by exact bT HB.out⟩

/-! ### impl_LastBirthday: function 8 -/
def impl_LastBirthday.l0 : Nat → List (S26) → Int → List (S26) → Int → Int → Int → Int → Option (Int × Int × List Int × Bool)
  | 0, _, _, _, _, _, _, _ => none
  | k + 1, x0, x7, x16, x17, x18, x279000, x279001 => if x18 < x17 then (if 0 ≤ x18 then (if x18 < (x16.length : Int) then ((impl_Date_index.f x279000 x279001).bind fun t289 => ((impl_Date_age.f ((rd_T26 x16 x18).f0) ((rd_T26 x16 x18).f1) t289).bind fun t290 => (if t290 > 0 then ((impl_Date_index.f ((rd_T26 x16 x18).f0) ((rd_T26 x16 x18).f1)).bind fun t291 => (impl_LastBirthday.l0 k x0 (mx x7 (wrap64 (t291 + (wrap64 (t290 * 365))))) x16 x17 (wrap64 (x18 + 1)) x279000 x279001)) else (impl_LastBirthday.l0 k x0 x7 x16 x17 (wrap64 (x18 + 1)) x279000 x279001)))) else (none)) else (none)) else ((impl_birthdayOf.f k x0 x7).bind fun bt281 => (some (bt281.1, bt281.2.1, bt281.2.2.1, bt281.2.2.2)))
def impl_LastBirthday.f (k : Nat) (l0 : List (S26)) (a1_0 : Int) (a1_1 : Int) : Option (Int × Int × List Int × Bool) := (impl_areBornOn.f k l0 a1_0 a1_1).bind fun t280 => (if t280 = true then (impl_LastBirthday.l0 k l0 (-1) l0 (l0.length : Int) 0 a1_0 a1_1) else (some (0, 0, ([] : List Int), false)))
theorem impl_LastBirthday.mono_l : ∀ k, (∀ y0 y1 y2 y3 y4 y5 y6, LeO (impl_LastBirthday.l0 k y0 y1 y2 y3 y4 y5 y6) (impl_LastBirthday.l0 (k + 1) y0 y1 y2 y3 y4 y5 y6))
  | 0 => fun _ _ _ _ _ _ _ r h => by simp [impl_LastBirthday.l0] at h
  | k + 1 => by
    have ih0 := impl_LastBirthday.mono_l k
    · intro y0 y1 y2 y3 y4 y5 y6
      unfold impl_LastBirthday.l0
      repeat' first
      | (with_reducible exact ih0 _ _ _ _ _ _ _)
      | (with_reducible exact impl_areBornOn.mono _ _ _ _)
      | (with_reducible exact impl_birthdayOf.mono _ _ _)
      | (with_reducible exact LeO.refl _)
      | (with_reducible exact LeO.none _)
      | (with_reducible refine LeO.ite ?_ ?_)
      | (with_reducible refine LeO.bind ?_ (fun _ => ?_))
      | exact ih0 _ _ _ _ _ _ _
      | exact impl_areBornOn.mono _ _ _ _
      | exact impl_birthdayOf.mono _ _ _
      | exact LeO.none _
      | refine LeO.ite ?_ ?_
      | refine LeO.bind ?_ (fun _ => ?_)
theorem impl_LastBirthday.mono : ∀ a0 a1 a2 k, LeO (impl_LastBirthday.f k a0 a1 a2) (impl_LastBirthday.f (k + 1) a0 a1 a2) := by
  intro a0 a1 a2 k
  have ih0 := impl_LastBirthday.mono_l k
  unfold impl_LastBirthday.f
  repeat' first
      | (with_reducible exact ih0 _ _ _ _ _ _ _)
      | (with_reducible exact impl_areBornOn.mono _ _ _ _)
      | (with_reducible exact impl_birthdayOf.mono _ _ _)
      | (with_reducible exact LeO.refl _)
      | (with_reducible exact LeO.none _)
      | (with_reducible refine LeO.ite ?_ ?_)
      | (with_reducible refine LeO.bind ?_ (fun _ => ?_))
      | exact ih0 _ _ _ _ _ _ _
      | exact impl_areBornOn.mono _ _ _ _
      | exact impl_birthdayOf.mono _ _ _
      | exact LeO.none _
      | refine LeO.ite ?_ ?_
      | refine LeO.bind ?_ (fun _ => ?_)
set_option maxHeartbeats 8000000 in
set_option maxRecDepth 100000 in
theorem impl_LastBirthday.calls (k : Nat) (A0 : Option Addr) (c0 : Nat) (l0 : List (S26)) (a1_0 : Int) (a1_1 : Int) (r1 : Int) (r2 : Int) (r3 : List Int) (r4 : Bool) (w : World) (hr0 : Kd.C k26 w A0 l0.length l0) (hc0 : l0.length ≤ c0) (h : impl_LastBirthday.f k l0 a1_0 a1_1 = some (r1, r2, r3, r4)) :
    Calls Try.prog 8 #[.slice A0 l0.length c0, .agg #[.int .i64 a1_0, .int .i64 a1_1]] w fun e w' => ∃ v2_ : Value, e = .returned (.tuple #[.agg #[.int .i64 r1, .int .i64 r2], v2_, .bool r4]) ∧ Kd.R (Kd.int .i64) 3 w' w.heap.size (fun _ => True) v2_ r3 ∧ Below w.heap.size w w' := by
  have hu26 := Try.underlying26
  have HR0 := am hr0
  have HC0 := am hc0
  clear hr0 hc0
  have HB := am (Below.refl w.heap.size w)
  have H : ((impl_areBornOn.f k l0 a1_0 a1_1).bind fun t280 => (if t280 = true then (impl_LastBirthday.l0 k l0 (-1) l0 (l0.length : Int) 0 a1_0 a1_1) else (some (0, 0, ([] : List Int), false)))) = some (r1, r2, r3, r4) := h
  clear h
  replace H := Option.bind_eq_some_iff.mp H
  obtain ⟨t280, A30, H⟩ := H
  replace H : (if t280 = true then (impl_LastBirthday.l0 k l0 (-1) l0 (l0.length : Int) 0 a1_0 a1_1) else (some (0, 0, ([] : List Int), false))) = some (r1, r2, r3, r4) := H
  have A3 := am A30
  clear A30
  by_cases c4 : t280 = true
  · subst c4
    have H1 : (impl_LastBirthday.l0 k l0 (-1) l0 (l0.length : Int) 0 a1_0 a1_1) = some (r1, r2, r3, r4) := by first | (rw [if_pos rfl] at H; exact H) | rfl
    clear H
    have H := H1
    clear H1
    have H' := am H
    clear H
    go_enter Try.func8, Try.ntmps8
    go_wp2_with (first | ((with_reducible refine gate_dst (N := 3) rfl ?_); refine gX 3 #[.int .i64 a1_0, .int .i64 a1_1] 26 ?_; intro gb278 hg w5 hbox hb; have n0_ := am (below_step (bY HB.out) hb); have n1_ := am (hbox); have n2_ := am (gZ hg (bY HB.out)); have n3_ := am (gZ hg (bY HB.out)); clear HB; have HB := n0_; have BK278 := n1_; have GW278 := n2_; have GE278 := n3_; clear n0_ n1_ n2_ n3_; clear hb hbox hg) | ((with_reducible refine gate_dst (N := 4) rfl ?_); refine gX 4 #[.int .i64 0, .int .i64 0] 26 ?_; intro gb279 hg w6 hbox hb; have n0_ := am (blk_below (bQ BK278.out) hb); have n1_ := am (below_step (bT HB.out) hb); have n2_ := am (hbox); have n3_ := am (gZ hg (bT HB.out)); have n4_ := am (gZ hg (bT HB.out)); have n5_ := am (gL hg (bQ BK278.out)); have n6_ := am (gG hg (bQ BK278.out)); clear BK278; clear HB; have BK278 := n0_; have HB := n1_; have BK279 := n2_; have GW279 := n3_; have GE279 := n4_; have NB278_279 := n5_; have NB279_278 := n6_; clear n0_ n1_ n2_ n3_ n4_ n5_ n6_; clear hb hbox hg; have hnb7 := NB278_279.out; have hnc7 := NB279_278.out; have hcz8_0 : w6.cell? ⟨gb278, 0, none⟩ = some (.int .i64 a1_0) := (blk_cell BK278.out 0).trans rfl; have hcz8_1 : w6.cell? ⟨gb278, 1, none⟩ = some (.int .i64 a1_1) := (blk_cell BK278.out 1).trans rfl; have hfz8_0 := blk_frozen BK278.out 0; have hfz8_1 := blk_frozen BK278.out 1) | ((with_reducible refine gate_callee (f := 35) rfl ?_); refine gC (some 13) Try.func35 #[.slice A0 l0.length c0, .agg #[.int .i64 a1_0, .int .i64 a1_1]] ?_; (with_reducible refine (impl_areBornOn.calls k _ _ l0 a1_0 a1_1 true _ ?side1 ?side2 A3.out).mono ?_); (case side1 => exact cY (Kd.C_below HR0.out HB.out)); (case side2 => exact HC0.out); rintro e w9 ⟨rfl, hb⟩; refine ⟨_, rfl, ?_⟩; have n0_ := am (blk_below (bQ BK278.out) hb); have n1_ := am (blk_below (bQ BK279.out) hb); have n2_ := am (below_step (bT HB.out) hb); clear BK278; clear BK279; clear HB; have BK278 := n0_; have BK279 := n1_; have HB := n2_; clear n0_ n1_ n2_; (try clear hb); (try clear hb2); (try clear hk); (try clear hi)))
    go_loopg [7, 18] k (fun kq v7 v18 w' => ∃ (x7_1 : Int) (x18_1 : Int), v7 = .int .i64 x7_1 ∧ v18 = .int .i64 x18_1 ∧ Aside0 (impl_LastBirthday.l0 kq l0 x7_1 l0 (l0.length : Int) x18_1 a1_0 a1_1 = some (r1, r2, r3, r4)) ∧ Aside0 (kq ≤ k) ∧ Aside0 (w'.heap[gb278]? = some (.cells #[.int .i64 a1_0, .int .i64 a1_1] 26 (0, 0))) ∧ Aside0 (w'.heap[gb279]? = some (.cells #[.int .i64 0, .int .i64 0] 26 (0, 0))) ∧ Aside0 (Below w.heap.size w w'))
    case atStart => exact ⟨((-1)), (0), (by first | rfl | (simp; done) | (simp [*]; done)), (by first | rfl | (simp; done) | (simp [*]; done)), H', ⟨Nat.le_refl _⟩, ⟨by (with_reducible repeat (first | refine blk_drewN ?_ _ | refine blk_drew ?_ | refine blk_alloc ?_ _)); exact BK278.out⟩, ⟨by (with_reducible repeat (first | refine blk_drewN ?_ _ | refine blk_drew ?_ | refine blk_alloc ?_ _)); exact BK279.out⟩, ⟨by exact bT HB.out⟩⟩
    case round =>
      clear H'
      try clear p2
      try clear c3
      try clear c4
      try clear c7
      try clear c8
      try clear hcz8_0
      try clear hcz8_1
      try clear hfz8_0
      try clear hfz8_1
      obtain ⟨x7_1, x18_1, rfl, rfl, HA, HK1, BK278, BK279, HB⟩ := hrel
      cases gk with
      | zero => exact absurd HA.out (by simp [impl_LastBirthday.l0])
      | succ k1 =>
        have H := HA.out
        clear HA
        simp only [impl_LastBirthday.l0] at H
        by_cases c10 : x18_1 < (l0.length : Int)
        · rw [if_pos c10] at H
          have c10b0 : decide (x18_1 < (l0.length : Int)) = true := decide_eq_true c10
          clear c10
          by_cases c11 : 0 ≤ x18_1
          · rw [if_pos c11] at H
            have c11b0 : decide (0 ≤ x18_1) = true := decide_eq_true c11
            clear c11
            by_cases c12 : x18_1 < (l0.length : Int)
            · rw [if_pos c12] at H
              have c12b0 : decide (x18_1 < (l0.length : Int)) = true := decide_eq_true c12
              clear c12
              replace H := Option.bind_eq_some_iff.mp H
              obtain ⟨t289, A130, H⟩ := H
              replace H : ((impl_Date_age.f ((rd_T26 l0 x18_1).f0) ((rd_T26 l0 x18_1).f1) t289).bind fun t290 => (if t290 > 0 then ((impl_Date_index.f ((rd_T26 l0 x18_1).f0) ((rd_T26 l0 x18_1).f1)).bind fun t291 => (impl_LastBirthday.l0 k1 l0 (mx x7_1 (wrap64 (t291 + (wrap64 (t290 * 365))))) l0 (l0.length : Int) (wrap64 (x18_1 + 1)) a1_0 a1_1)) else (impl_LastBirthday.l0 k1 l0 x7_1 l0 (l0.length : Int) (wrap64 (x18_1 + 1)) a1_0 a1_1))) = some (r1, r2, r3, r4) := H
              have A13 := am A130
              clear A130
              replace H := Option.bind_eq_some_iff.mp H
              obtain ⟨t290, A140, H⟩ := H
              replace H : (if t290 > 0 then ((impl_Date_index.f ((rd_T26 l0 x18_1).f0) ((rd_T26 l0 x18_1).f1)).bind fun t291 => (impl_LastBirthday.l0 k1 l0 (mx x7_1 (wrap64 (t291 + (wrap64 (t290 * 365))))) l0 (l0.length : Int) (wrap64 (x18_1 + 1)) a1_0 a1_1)) else (impl_LastBirthday.l0 k1 l0 x7_1 l0 (l0.length : Int) (wrap64 (x18_1 + 1)) a1_0 a1_1)) = some (r1, r2, r3, r4) := H
              have A14 := am A140
              clear A140
              by_cases c15 : t290 > 0
              · rw [if_pos c15] at H
                have c15b0 : decide (0 < t290) = true := decide_eq_true c15
                clear c15
                replace H := Option.bind_eq_some_iff.mp H
                obtain ⟨t291, A160, H⟩ := H
                replace H : (impl_LastBirthday.l0 k1 l0 (mx x7_1 (wrap64 (t291 + (wrap64 (t290 * 365))))) l0 (l0.length : Int) (wrap64 (x18_1 + 1)) a1_0 a1_1) = some (r1, r2, r3, r4) := H
                have A16 := am A160
                clear A160
                obtain ⟨ji17, hji17⟩ : ∃ j_ : Int, (mx x7_1 (wrap64 (t291 + (wrap64 (t290 * 365))))) = j_ := ⟨_, rfl⟩
                replace H : (impl_LastBirthday.l0 k1 l0 ji17 l0 (l0.length : Int) (wrap64 (x18_1 + 1)) a1_0 a1_1) = some (r1, r2, r3, r4) := by first | (rw [hji17] at H; exact H) | (simp only [hji17] at H ⊢; exact H)
                (try rw [hji17] at A13)
                (try rw [hji17] at A14)
                (try rw [hji17] at A16)
                have hji17_ : (if x7_1 < (wrap64 (t291 + (wrap64 (t290 * 365)))) then (wrap64 (t291 + (wrap64 (t290 * 365)))) else x7_1) = ji17 := hji17
                have H' := am H
                clear H
                have p287 : 0 ≤ (x18_1 : Int) := of_decide_eq_true (by first | (with_reducible assumption) | assumption)
                have q287 : x18_1 < (l0.length : Int) := of_decide_eq_true (by first | (with_reducible assumption) | assumption)
                obtain ⟨ad287, e287, hx287_0, hx287_1⟩ := at_T26 HR0.out x18_1 p287 q287
                cases e287
                replace hx287_0 := (HB.out.cell (World.block_lt_of_cell? w _ hx287_0)).trans hx287_0
                replace hx287_1 := (HB.out.cell (World.block_lt_of_cell? w _ hx287_1)).trans hx287_1
                replace p287 := eq_true p287
                replace q287 := eq_true q287
                try go_wp2_with (first | ((with_reducible refine gate_dst (N := 9) rfl ?_); refine gX 9 #[.int .i64 0, .int .i64 0] 26 ?_; intro gb288 hg w18 hbox hb; have n0_ := am (blk_below (bQ BK278.out) hb); have n1_ := am (blk_below (bQ BK279.out) hb); have n2_ := am (below_step (bT HB.out) hb); have n3_ := am (hbox); have n4_ := am (gZ hg (bT HB.out)); have n5_ := am (gZ hg (bT HB.out)); have n6_ := am (gL hg (bQ BK278.out)); have n7_ := am (gG hg (bQ BK278.out)); have n8_ := am (gL hg (bQ BK279.out)); have n9_ := am (gG hg (bQ BK279.out)); clear BK278; clear BK279; clear HB; have BK278 := n0_; have BK279 := n1_; have HB := n2_; have BK288 := n3_; have GW288 := n4_; have GE288 := n5_; have NB278_288 := n6_; have NB288_278 := n7_; have NB279_288 := n8_; have NB288_279 := n9_; clear n0_ n1_ n2_ n3_ n4_ n5_ n6_ n7_ n8_ n9_; clear hb hbox hg; have hnb19 := NB288_278.out; have hnc19 := NB278_288.out; have hnb20 := NB288_279.out; have hnc20 := NB279_288.out; have hcz21_0 : w18.cell? ⟨gb288, 0, none⟩ = some (.int .i64 0) := (blk_cell BK288.out 0).trans rfl; have hcz21_1 : w18.cell? ⟨gb288, 1, none⟩ = some (.int .i64 0) := (blk_cell BK288.out 1).trans rfl; have hfz21_0 := blk_frozen BK288.out 0; have hfz21_1 := blk_frozen BK288.out 1))
                have n0_ : Aside0 (((w18.setCell ⟨gb288, 0, none⟩ (.int .i64 ((rd_T26 l0 x18_1).f0))).setCell ⟨gb288, 1, none⟩ (.int .i64 ((rd_T26 l0 x18_1).f1))).heap[gb278]? = some (.cells #[.int .i64 a1_0, .int .i64 a1_1] 26 (0, 0))) := ⟨by (with_reducible repeat (first | refine blk_drewN ?_ _ | refine blk_drew ?_ | refine blk_alloc ?_ _)); refine blk_far ?_ NB278_288.out _; (with_reducible repeat (first | refine blk_drewN ?_ _ | refine blk_drew ?_ | refine blk_alloc ?_ _)); refine blk_far ?_ NB278_288.out _; (with_reducible repeat (first | refine blk_drewN ?_ _ | refine blk_drew ?_ | refine blk_alloc ?_ _)); exact BK278.out⟩
                have n1_ : Aside0 (((w18.setCell ⟨gb288, 0, none⟩ (.int .i64 ((rd_T26 l0 x18_1).f0))).setCell ⟨gb288, 1, none⟩ (.int .i64 ((rd_T26 l0 x18_1).f1))).heap[gb279]? = some (.cells #[.int .i64 0, .int .i64 0] 26 (0, 0))) := ⟨by (with_reducible repeat (first | refine blk_drewN ?_ _ | refine blk_drew ?_ | refine blk_alloc ?_ _)); refine blk_far ?_ NB279_288.out _; (with_reducible repeat (first | refine blk_drewN ?_ _ | refine blk_drew ?_ | refine blk_alloc ?_ _)); refine blk_far ?_ NB279_288.out _; (with_reducible repeat (first | refine blk_drewN ?_ _ | refine blk_drew ?_ | refine blk_alloc ?_ _)); exact BK279.out⟩
                have n2_ : Aside0 (((w18.setCell ⟨gb288, 0, none⟩ (.int .i64 ((rd_T26 l0 x18_1).f0))).setCell ⟨gb288, 1, none⟩ (.int .i64 ((rd_T26 l0 x18_1).f1))).heap[gb288]? = some (.cells #[.int .i64 ((rd_T26 l0 x18_1).f0), .int .i64 ((rd_T26 l0 x18_1).f1)] 26 (0, 0))) := ⟨by (with_reducible repeat (first | refine blk_drewN ?_ _ | refine blk_drew ?_ | refine blk_alloc ?_ _)); refine blk_put (cs := #[.int .i64 ((rd_T26 l0 x18_1).f0), .int .i64 0]) ?_ 1 _ rfl; (with_reducible repeat (first | refine blk_drewN ?_ _ | refine blk_drew ?_ | refine blk_alloc ?_ _)); refine blk_put (cs := #[.int .i64 0, .int .i64 0]) ?_ 0 _ rfl; (with_reducible repeat (first | refine blk_drewN ?_ _ | refine blk_drew ?_ | refine blk_alloc ?_ _)); exact BK288.out⟩
                have n3_ : Aside0 (Below w.heap.size w ((w18.setCell ⟨gb288, 0, none⟩ (.int .i64 ((rd_T26 l0 x18_1).f0))).setCell ⟨gb288, 1, none⟩ (.int .i64 ((rd_T26 l0 x18_1).f1)))) := ⟨by exact bT HB.out⟩
                (try clear BK278)
                (try clear BK279)
                (try clear BK288)
                (try clear HB)
                generalize ((w18.setCell ⟨gb288, 0, none⟩ (.int .i64 ((rd_T26 l0 x18_1).f0))).setCell ⟨gb288, 1, none⟩ (.int .i64 ((rd_T26 l0 x18_1).f1))) = w22 at n0_ n1_ n2_ n3_ ⊢
                have BK278 := n0_
                have BK279 := n1_
                have BK288 := n2_
                have HB := n3_
                clear n0_ n1_ n2_ n3_
                have n0_ := am (blk_drew BK278.out)
                have n1_ := am (blk_drew BK279.out)
                have n2_ := am (blk_drew BK288.out)
                have n3_ := am (below_drew1 HB.out)
                clear BK278
                clear BK279
                clear BK288
                clear HB
                have BK278 := n0_
                have BK279 := n1_
                have BK288 := n2_
                have HB := n3_
                clear n0_ n1_ n2_ n3_
                refine start_ (n := 5) (S := fun w' => w'.cell? ⟨gb288, 0, none⟩ = some (.int .i64 ((rd_T26 l0 x18_1).f0)) ∧ w'.cell? ⟨gb288, 1, none⟩ = some (.int .i64 ((rd_T26 l0 x18_1).f1)) ∧ w'.cell? ⟨gb278, 0, none⟩ = some (.int .i64 a1_0) ∧ w'.cell? ⟨gb278, 1, none⟩ = some (.int .i64 a1_1)) (ds := []) #[false, false, false, false, false] (by kernel_rfl) rfl rfl ⟨(blk_cell BK288.out 0).trans rfl, (blk_cell BK288.out 1).trans rfl, (blk_cell BK278.out 0).trans rfl, (blk_cell BK278.out 1).trans rfl⟩ (fun hHeld => ?_)
                generalize w22.drew = w23 at BK278 BK279 BK288 HB hHeld ⊢
                refine take_ (i := 0) (N := some 22) (v := ?_) (a' := ?_) #[true, false, false, false, false] rfl rfl (by kernel_rfl) (fun _ _ _ h => h) (Or.inl ⟨by rfl, ?_⟩) hHeld ?_ ?_
                rotate_left
                · rintro w' ⟨s0, s1, s2, s3⟩
                  go_simp
                  with_reducible rfl
                rotate_left
                · simp only [Act.put, List.setIfInBounds_toArray, List.set_cons_zero, List.set_cons_succ, i64_w, i32_w]
                  rfl
                refine take_ (i := 1) (N := some 23) (v := ?_) (a' := ?_) #[true, true, false, false, false] rfl rfl (by kernel_rfl) (fun _ _ _ h => h) (Or.inl ⟨by rfl, ?_⟩) hHeld ?_ ?_
                rotate_left
                · rintro w' ⟨s0, s1, s2, s3⟩
                  go_simp
                  with_reducible rfl
                rotate_left
                · simp only [Act.put, List.setIfInBounds_toArray, List.set_cons_zero, List.set_cons_succ, i64_w, i32_w]
                  rfl
                refine one_ (i := 2) (N := some 24) #[true, true, true, false, false] rfl rfl (by kernel_rfl) (by decide) (fun K hK => ?_)
                refine goes_ Try.func36 (by kernel_rfl) rfl #[.agg #[.int .i64 a1_0, .int .i64 a1_1]] (by rfl) rfl rfl (by (try simp only [List.map_toArray, List.map_cons, List.map_nil]); first | done | rfl | (simp only [List.length_drop, List.length_take]; rfl)) ?_
                with_reducible refine (impl_Date_index.calls a1_0 a1_1 t289 _ A13.out).mono ?_
                rintro e w24 ⟨rfl, hb⟩
                refine ⟨_, rfl, ?_⟩
                have n0_ := am (blk_below (bQ BK278.out) hb)
                have n1_ := am (blk_below (bQ BK279.out) hb)
                have n2_ := am (blk_below (bQ BK288.out) hb)
                have n3_ := am (below_step (bT HB.out) hb)
                clear BK278
                clear BK279
                clear BK288
                clear HB
                have BK278 := n0_
                have BK279 := n1_
                have BK288 := n2_
                have HB := n3_
                clear n0_ n1_ n2_ n3_
                (try clear hb)
                (try clear hb2)
                (try clear hk)
                (try clear hi)
                refine hK.out _ _ ⟨(blk_cell BK288.out 0).trans rfl, (blk_cell BK288.out 1).trans rfl, (blk_cell BK278.out 0).trans rfl, (blk_cell BK278.out 1).trans rfl⟩ (fun hHeld => ?_)
                clear hK K
                refine norm_ (a' := ?_) ?_ ?_
                rotate_left
                · show Act.put _ (some 24) _ = _
                  simp only [Act.put, List.setIfInBounds_toArray, List.set_cons_zero, List.set_cons_succ, i64_w, i32_w]
                  rfl
                refine one_ (i := 3) (N := some 25) #[true, true, true, true, false] rfl rfl (by kernel_rfl) (by decide) (fun K hK => ?_)
                refine goes_ Try.func37 (by kernel_rfl) rfl #[.agg #[.int .i64 ((rd_T26 l0 x18_1).f0), .int .i64 ((rd_T26 l0 x18_1).f1)], .int .i64 t289] (by rfl) rfl rfl (by (try simp only [List.map_toArray, List.map_cons, List.map_nil]); first | done | rfl | (simp only [List.length_drop, List.length_take]; rfl)) ?_
                with_reducible refine (impl_Date_age.calls ((rd_T26 l0 x18_1).f0) ((rd_T26 l0 x18_1).f1) t289 t290 _ A14.out).mono ?_
                rintro e w25 ⟨rfl, hb⟩
                refine ⟨_, rfl, ?_⟩
                have n0_ := am (blk_below (bQ BK278.out) hb)
                have n1_ := am (blk_below (bQ BK279.out) hb)
                have n2_ := am (blk_below (bQ BK288.out) hb)
                have n3_ := am (below_step (bT HB.out) hb)
                clear BK278
                clear BK279
                clear BK288
                clear HB
                have BK278 := n0_
                have BK279 := n1_
                have BK288 := n2_
                have HB := n3_
                clear n0_ n1_ n2_ n3_
                (try clear hb)
                (try clear hb2)
                (try clear hk)
                (try clear hi)
                refine hK.out _ _ ⟨(blk_cell BK288.out 0).trans rfl, (blk_cell BK288.out 1).trans rfl, (blk_cell BK278.out 0).trans rfl, (blk_cell BK278.out 1).trans rfl⟩ (fun hHeld => ?_)
                clear hK K
                refine norm_ (a' := ?_) ?_ ?_
                rotate_left
                · show Act.put _ (some 25) _ = _
                  simp only [Act.put, List.setIfInBounds_toArray, List.set_cons_zero, List.set_cons_succ, i64_w, i32_w]
                  rfl
                refine pure_ (i := 4) (N := some 10) (v := ?_) (a' := ?_) #[true, true, true, true, true] rfl rfl (by kernel_rfl) (fun _ _ _ h => h) (Or.inl ⟨by rfl, ?_⟩) ?_ ?_
                rotate_left
                · intro w'
                  go_simp
                  with_reducible rfl
                rotate_left
                · simp only [Act.put, List.setIfInBounds_toArray, List.set_cons_zero, List.set_cons_succ, i64_w, i32_w]
                  rfl
                refine done_ (by kernel_rfl) ?_
                have hcz26_0 : w25.cell? ⟨gb288, 0, none⟩ = some (.int .i64 ((rd_T26 l0 x18_1).f0)) := (blk_cell BK288.out 0).trans rfl
                have hcz26_1 : w25.cell? ⟨gb288, 1, none⟩ = some (.int .i64 ((rd_T26 l0 x18_1).f1)) := (blk_cell BK288.out 1).trans rfl
                have hfz26_0 := blk_frozen BK288.out 0
                have hfz26_1 := blk_frozen BK288.out 1
                try go_wp2_with (first | ((with_reducible refine gate_callee (f := 36) rfl ?_); refine gC (some 30) Try.func36 #[.agg #[.int .i64 ((rd_T26 l0 x18_1).f0), .int .i64 ((rd_T26 l0 x18_1).f1)]] ?_; (with_reducible refine (impl_Date_index.calls ((rd_T26 l0 x18_1).f0) ((rd_T26 l0 x18_1).f1) t291 _ A16.out).mono ?_); rintro e w27 ⟨rfl, hb⟩; refine ⟨_, rfl, ?_⟩; have n0_ := am (blk_below (bQ BK278.out) hb); have n1_ := am (blk_below (bQ BK279.out) hb); have n2_ := am (blk_below (bQ BK288.out) hb); have n3_ := am (below_step (bT HB.out) hb); clear BK278; clear BK279; clear BK288; clear HB; have BK278 := n0_; have BK279 := n1_; have BK288 := n2_; have HB := n3_; clear n0_ n1_ n2_ n3_; (try clear hb); (try clear hb2); (try clear hk); (try clear hi)))
                go_roundg k1
                case measure => have := HK1.out; omega
                case rel => exact ⟨(ji17), (wrap64 (x18_1 + 1)), (by first | rfl | (simp; done) | (simp only [← hji17] <;> (first | rfl | simp)) | (simp [*]; done)), (by first | rfl | (simp; done) | (simp [*]; done)), H', ⟨by have := HK1.out; omega⟩, ⟨by (with_reducible repeat (first | refine blk_drewN ?_ _ | refine blk_drew ?_ | refine blk_alloc ?_ _)); exact BK278.out⟩, ⟨by (with_reducible repeat (first | refine blk_drewN ?_ _ | refine blk_drew ?_ | refine blk_alloc ?_ _)); exact BK279.out⟩, ⟨by exact bT HB.out⟩⟩
              · rw [if_neg c15] at H
                have c15b0 : decide (0 < t290) = false := decide_eq_false c15
                clear c15
                have H' := am H
                clear H
                have p287 : 0 ≤ (x18_1 : Int) := of_decide_eq_true (by first | (with_reducible assumption) | assumption)
                have q287 : x18_1 < (l0.length : Int) := of_decide_eq_true (by first | (with_reducible assumption) | assumption)
                obtain ⟨ad287, e287, hx287_0, hx287_1⟩ := at_T26 HR0.out x18_1 p287 q287
                cases e287
                replace hx287_0 := (HB.out.cell (World.block_lt_of_cell? w _ hx287_0)).trans hx287_0
                replace hx287_1 := (HB.out.cell (World.block_lt_of_cell? w _ hx287_1)).trans hx287_1
                replace p287 := eq_true p287
                replace q287 := eq_true q287
                try go_wp2_with (first | ((with_reducible refine gate_dst (N := 9) rfl ?_); refine gX 9 #[.int .i64 0, .int .i64 0] 26 ?_; intro gb288 hg w28 hbox hb; have n0_ := am (blk_below (bQ BK278.out) hb); have n1_ := am (blk_below (bQ BK279.out) hb); have n2_ := am (below_step (bT HB.out) hb); have n3_ := am (hbox); have n4_ := am (gZ hg (bT HB.out)); have n5_ := am (gZ hg (bT HB.out)); have n6_ := am (gL hg (bQ BK278.out)); have n7_ := am (gG hg (bQ BK278.out)); have n8_ := am (gL hg (bQ BK279.out)); have n9_ := am (gG hg (bQ BK279.out)); clear BK278; clear BK279; clear HB; have BK278 := n0_; have BK279 := n1_; have HB := n2_; have BK288 := n3_; have GW288 := n4_; have GE288 := n5_; have NB278_288 := n6_; have NB288_278 := n7_; have NB279_288 := n8_; have NB288_279 := n9_; clear n0_ n1_ n2_ n3_ n4_ n5_ n6_ n7_ n8_ n9_; clear hb hbox hg; have hnb29 := NB288_278.out; have hnc29 := NB278_288.out; have hnb30 := NB288_279.out; have hnc30 := NB279_288.out; have hcz31_0 : w28.cell? ⟨gb288, 0, none⟩ = some (.int .i64 0) := (blk_cell BK288.out 0).trans rfl; have hcz31_1 : w28.cell? ⟨gb288, 1, none⟩ = some (.int .i64 0) := (blk_cell BK288.out 1).trans rfl; have hfz31_0 := blk_frozen BK288.out 0; have hfz31_1 := blk_frozen BK288.out 1))
                have n0_ : Aside0 (((w28.setCell ⟨gb288, 0, none⟩ (.int .i64 ((rd_T26 l0 x18_1).f0))).setCell ⟨gb288, 1, none⟩ (.int .i64 ((rd_T26 l0 x18_1).f1))).heap[gb278]? = some (.cells #[.int .i64 a1_0, .int .i64 a1_1] 26 (0, 0))) := ⟨by (with_reducible repeat (first | refine blk_drewN ?_ _ | refine blk_drew ?_ | refine blk_alloc ?_ _)); refine blk_far ?_ NB278_288.out _; (with_reducible repeat (first | refine blk_drewN ?_ _ | refine blk_drew ?_ | refine blk_alloc ?_ _)); refine blk_far ?_ NB278_288.out _; (with_reducible repeat (first | refine blk_drewN ?_ _ | refine blk_drew ?_ | refine blk_alloc ?_ _)); exact BK278.out⟩
                have n1_ : Aside0 (((w28.setCell ⟨gb288, 0, none⟩ (.int .i64 ((rd_T26 l0 x18_1).f0))).setCell ⟨gb288, 1, none⟩ (.int .i64 ((rd_T26 l0 x18_1).f1))).heap[gb279]? = some (.cells #[.int .i64 0, .int .i64 0] 26 (0, 0))) := ⟨by (with_reducible repeat (first | refine blk_drewN ?_ _ | refine blk_drew ?_ | refine blk_alloc ?_ _)); refine blk_far ?_ NB279_288.out _; (with_reducible repeat (first | refine blk_drewN ?_ _ | refine blk_drew ?_ | refine blk_alloc ?_ _)); refine blk_far ?_ NB279_288.out _; (with_reducible repeat (first | refine blk_drewN ?_ _ | refine blk_drew ?_ | refine blk_alloc ?_ _)); exact BK279.out⟩
                have n2_ : Aside0 (((w28.setCell ⟨gb288, 0, none⟩ (.int .i64 ((rd_T26 l0 x18_1).f0))).setCell ⟨gb288, 1, none⟩ (.int .i64 ((rd_T26 l0 x18_1).f1))).heap[gb288]? = some (.cells #[.int .i64 ((rd_T26 l0 x18_1).f0), .int .i64 ((rd_T26 l0 x18_1).f1)] 26 (0, 0))) := ⟨by (with_reducible repeat (first | refine blk_drewN ?_ _ | refine blk_drew ?_ | refine blk_alloc ?_ _)); refine blk_put (cs := #[.int .i64 ((rd_T26 l0 x18_1).f0), .int .i64 0]) ?_ 1 _ rfl; (with_reducible repeat (first | refine blk_drewN ?_ _ | refine blk_drew ?_ | refine blk_alloc ?_ _)); refine blk_put (cs := #[.int .i64 0, .int .i64 0]) ?_ 0 _ rfl; (with_reducible repeat (first | refine blk_drewN ?_ _ | refine blk_drew ?_ | refine blk_alloc ?_ _)); exact BK288.out⟩
                have n3_ : Aside0 (Below w.heap.size w ((w28.setCell ⟨gb288, 0, none⟩ (.int .i64 ((rd_T26 l0 x18_1).f0))).setCell ⟨gb288, 1, none⟩ (.int .i64 ((rd_T26 l0 x18_1).f1)))) := ⟨by exact bT HB.out⟩
                (try clear BK278)
                (try clear BK279)
                (try clear BK288)
                (try clear HB)
                generalize ((w28.setCell ⟨gb288, 0, none⟩ (.int .i64 ((rd_T26 l0 x18_1).f0))).setCell ⟨gb288, 1, none⟩ (.int .i64 ((rd_T26 l0 x18_1).f1))) = w32 at n0_ n1_ n2_ n3_ ⊢
                have BK278 := n0_
                have BK279 := n1_
                have BK288 := n2_
                have HB := n3_
                clear n0_ n1_ n2_ n3_
                have n0_ := am (blk_drew BK278.out)
                have n1_ := am (blk_drew BK279.out)
                have n2_ := am (blk_drew BK288.out)
                have n3_ := am (below_drew1 HB.out)
                clear BK278
                clear BK279
                clear BK288
                clear HB
                have BK278 := n0_
                have BK279 := n1_
                have BK288 := n2_
                have HB := n3_
                clear n0_ n1_ n2_ n3_
                refine start_ (n := 5) (S := fun w' => w'.cell? ⟨gb288, 0, none⟩ = some (.int .i64 ((rd_T26 l0 x18_1).f0)) ∧ w'.cell? ⟨gb288, 1, none⟩ = some (.int .i64 ((rd_T26 l0 x18_1).f1)) ∧ w'.cell? ⟨gb278, 0, none⟩ = some (.int .i64 a1_0) ∧ w'.cell? ⟨gb278, 1, none⟩ = some (.int .i64 a1_1)) (ds := []) #[false, false, false, false, false] (by kernel_rfl) rfl rfl ⟨(blk_cell BK288.out 0).trans rfl, (blk_cell BK288.out 1).trans rfl, (blk_cell BK278.out 0).trans rfl, (blk_cell BK278.out 1).trans rfl⟩ (fun hHeld => ?_)
                generalize w32.drew = w33 at BK278 BK279 BK288 HB hHeld ⊢
                refine take_ (i := 0) (N := some 22) (v := ?_) (a' := ?_) #[true, false, false, false, false] rfl rfl (by kernel_rfl) (fun _ _ _ h => h) (Or.inl ⟨by rfl, ?_⟩) hHeld ?_ ?_
                rotate_left
                · rintro w' ⟨s0, s1, s2, s3⟩
                  go_simp
                  with_reducible rfl
                rotate_left
                · simp only [Act.put, List.setIfInBounds_toArray, List.set_cons_zero, List.set_cons_succ, i64_w, i32_w]
                  rfl
                refine take_ (i := 1) (N := some 23) (v := ?_) (a' := ?_) #[true, true, false, false, false] rfl rfl (by kernel_rfl) (fun _ _ _ h => h) (Or.inl ⟨by rfl, ?_⟩) hHeld ?_ ?_
                rotate_left
                · rintro w' ⟨s0, s1, s2, s3⟩
                  go_simp
                  with_reducible rfl
                rotate_left
                · simp only [Act.put, List.setIfInBounds_toArray, List.set_cons_zero, List.set_cons_succ, i64_w, i32_w]
                  rfl
                refine one_ (i := 2) (N := some 24) #[true, true, true, false, false] rfl rfl (by kernel_rfl) (by decide) (fun K hK => ?_)
                refine goes_ Try.func36 (by kernel_rfl) rfl #[.agg #[.int .i64 a1_0, .int .i64 a1_1]] (by rfl) rfl rfl (by (try simp only [List.map_toArray, List.map_cons, List.map_nil]); first | done | rfl | (simp only [List.length_drop, List.length_take]; rfl)) ?_
                with_reducible refine (impl_Date_index.calls a1_0 a1_1 t289 _ A13.out).mono ?_
                rintro e w34 ⟨rfl, hb⟩
                refine ⟨_, rfl, ?_⟩
                have n0_ := am (blk_below (bQ BK278.out) hb)
                have n1_ := am (blk_below (bQ BK279.out) hb)
                have n2_ := am (blk_below (bQ BK288.out) hb)
                have n3_ := am (below_step (bT HB.out) hb)
                clear BK278
                clear BK279
                clear BK288
                clear HB
                have BK278 := n0_
                have BK279 := n1_
                have BK288 := n2_
                have HB := n3_
                clear n0_ n1_ n2_ n3_
                (try clear hb)
                (try clear hb2)
                (try clear hk)
                (try clear hi)
                refine hK.out _ _ ⟨(blk_cell BK288.out 0).trans rfl, (blk_cell BK288.out 1).trans rfl, (blk_cell BK278.out 0).trans rfl, (blk_cell BK278.out 1).trans rfl⟩ (fun hHeld => ?_)
                clear hK K
                refine norm_ (a' := ?_) ?_ ?_
                rotate_left
                · show Act.put _ (some 24) _ = _
                  simp only [Act.put, List.setIfInBounds_toArray, List.set_cons_zero, List.set_cons_succ, i64_w, i32_w]
                  rfl
                refine one_ (i := 3) (N := some 25) #[true, true, true, true, false] rfl rfl (by kernel_rfl) (by decide) (fun K hK => ?_)
                refine goes_ Try.func37 (by kernel_rfl) rfl #[.agg #[.int .i64 ((rd_T26 l0 x18_1).f0), .int .i64 ((rd_T26 l0 x18_1).f1)], .int .i64 t289] (by rfl) rfl rfl (by (try simp only [List.map_toArray, List.map_cons, List.map_nil]); first | done | rfl | (simp only [List.length_drop, List.length_take]; rfl)) ?_
                with_reducible refine (impl_Date_age.calls ((rd_T26 l0 x18_1).f0) ((rd_T26 l0 x18_1).f1) t289 t290 _ A14.out).mono ?_
                rintro e w35 ⟨rfl, hb⟩
                refine ⟨_, rfl, ?_⟩
                have n0_ := am (blk_below (bQ BK278.out) hb)
                have n1_ := am (blk_below (bQ BK279.out) hb)
                have n2_ := am (blk_below (bQ BK288.out) hb)
                have n3_ := am (below_step (bT HB.out) hb)
                clear BK278
                clear BK279
                clear BK288
                clear HB
                have BK278 := n0_
                have BK279 := n1_
                have BK288 := n2_
                have HB := n3_
                clear n0_ n1_ n2_ n3_
                (try clear hb)
                (try clear hb2)
                (try clear hk)
                (try clear hi)
                refine hK.out _ _ ⟨(blk_cell BK288.out 0).trans rfl, (blk_cell BK288.out 1).trans rfl, (blk_cell BK278.out 0).trans rfl, (blk_cell BK278.out 1).trans rfl⟩ (fun hHeld => ?_)
                clear hK K
                refine norm_ (a' := ?_) ?_ ?_
                rotate_left
                · show Act.put _ (some 25) _ = _
                  simp only [Act.put, List.setIfInBounds_toArray, List.set_cons_zero, List.set_cons_succ, i64_w, i32_w]
                  rfl
                refine pure_ (i := 4) (N := some 10) (v := ?_) (a' := ?_) #[true, true, true, true, true] rfl rfl (by kernel_rfl) (fun _ _ _ h => h) (Or.inl ⟨by rfl, ?_⟩) ?_ ?_
                rotate_left
                · intro w'
                  go_simp
                  with_reducible rfl
                rotate_left
                · simp only [Act.put, List.setIfInBounds_toArray, List.set_cons_zero, List.set_cons_succ, i64_w, i32_w]
                  rfl
                refine done_ (by kernel_rfl) ?_
                try go_wp2
                go_roundg k1
                case measure => have := HK1.out; omega
                case rel => exact ⟨(x7_1), (wrap64 (x18_1 + 1)), (by first | rfl | (simp; done) | (simp [*]; done)), (by first | rfl | (simp; done) | (simp [*]; done)), H', ⟨by have := HK1.out; omega⟩, ⟨by (with_reducible repeat (first | refine blk_drewN ?_ _ | refine blk_drew ?_ | refine blk_alloc ?_ _)); exact BK278.out⟩, ⟨by (with_reducible repeat (first | refine blk_drewN ?_ _ | refine blk_drew ?_ | refine blk_alloc ?_ _)); exact BK279.out⟩, ⟨by exact bT HB.out⟩⟩
            · rw [if_neg c12] at H
              exact absurd H (by simp)
          · rw [if_neg c11] at H
            exact absurd H (by simp)
        · rw [if_neg c10] at H
          have c10b0 : decide (x18_1 < (l0.length : Int)) = false := decide_eq_false c10
          clear c10
          replace H := Option.bind_eq_some_iff.mp H
          obtain ⟨⟨t281, t282, t283, t286⟩, A360, H⟩ := H
          replace H : (some (t281, t282, t283, t286)) = some (r1, r2, r3, r4) := H
          have A36 := am A360
          clear A360
          simp only [Option.some.injEq, Prod.mk.injEq] at H
          obtain ⟨rfl, rfl, rfl, rfl⟩ := H
          go_wp2_with (first | ((with_reducible refine gate_callee (f := 38) rfl ?_); refine gC (some 38) Try.func38 #[.slice A0 l0.length c0, .int .i64 x7_1] ?_; (with_reducible refine (impl_birthdayOf.calls k1 _ _ l0 x7_1 t281 t282 t283 t286 _ ?side1 ?side2 A36.out).mono ?_); (case side1 => exact cY (Kd.C_below HR0.out HB.out)); (case side2 => exact HC0.out); rintro e w37 ⟨v284, rfl, ho0, hb⟩; refine ⟨_, rfl, ?_⟩; have n0_ := am (Kd.R_lower ho0 (below_size (bT HB.out))); have n1_ := am (blk_below (bQ BK278.out) hb); have n2_ := am (blk_below (bQ BK279.out) hb); have n3_ := am (below_step (bT HB.out) hb); clear BK278; clear BK279; clear HB; have HO285 := n0_; have BK278 := n1_; have BK279 := n2_; have HB := n3_; clear n0_ n1_ n2_ n3_; (try clear hb); (try clear hb2); (try clear hk); (try clear hi); (try clear ho0); have hnb38 := NB279_278.out; have hnc38 := NB278_279.out; have hcz39_0 : w37.cell? ⟨gb279, 0, none⟩ = some (.int .i64 0) := (blk_cell BK279.out 0).trans rfl; have hcz39_1 : w37.cell? ⟨gb279, 1, none⟩ = some (.int .i64 0) := (blk_cell BK279.out 1).trans rfl; have hfz39_0 := blk_frozen BK279.out 0; have hfz39_1 := blk_frozen BK279.out 1))
          refine bodyPost_ret (results_ctt rfl _ _ gb279 26 #[.int .i64 t281, .int .i64 t282] (0, 0) _ rfl (by (with_reducible repeat (first | refine blk_drewN ?_ _ | refine blk_drew ?_ | refine blk_alloc ?_ _)); refine blk_put (cs := #[.int .i64 t281, .int .i64 0]) ?_ 1 _ rfl; (with_reducible repeat (first | refine blk_drewN ?_ _ | refine blk_drew ?_ | refine blk_alloc ?_ _)); refine blk_put (cs := #[.int .i64 0, .int .i64 0]) ?_ 0 _ rfl; (with_reducible repeat (first | refine blk_drewN ?_ _ | refine blk_drew ?_ | refine blk_alloc ?_ _)); exact BK279.out) Try.underlying26 rfl (by kernel_rfl)) rfl ?_
          exact ⟨_, by first | rfl | (simp [errW_none, errW_some] <;> rfl) | (simp [*, errW_none, errW_some] <;> rfl), by (with_reducible repeat (first | apply Kd.R_alloc | apply Kd.R_drewN | apply Kd.R_drew)); exact Kd.R_mono (Kd.R_far (p := ⟨gb279, 1, none⟩) (Kd.R_far (p := ⟨gb279, 0, none⟩) (Kd.R_types HO285.out BK279.out (by decide)) (fun _ hk => hk.2) (.int .i64 t281)) (fun _ hk => hk.2) (.int .i64 t282)) (fun _ hk => trivial), by exact bT HB.out⟩
  · replace c4 := Bool.eq_false_iff.mpr c4
    subst c4
    have H1 : (some (0, 0, ([] : List Int), false)) = some (r1, r2, r3, r4) := by first | (rw [if_neg (show ¬ (false = true) by decide)] at H; exact H) | rfl
    clear H
    have H := H1
    clear H1
    simp only [Option.some.injEq, Prod.mk.injEq] at H
    obtain ⟨rfl, rfl, rfl, rfl⟩ := H
    go_enter Try.func8, Try.ntmps8
    go_wp2_with (first | ((with_reducible refine gate_dst (N := 3) rfl ?_); refine gX 3 #[.int .i64 a1_0, .int .i64 a1_1] 26 ?_; intro gb278 hg w40 hbox hb; have n0_ := am (below_step (bY HB.out) hb); have n1_ := am (hbox); have n2_ := am (gZ hg (bY HB.out)); have n3_ := am (gZ hg (bY HB.out)); clear HB; have HB := n0_; have BK278 := n1_; have GW278 := n2_; have GE278 := n3_; clear n0_ n1_ n2_ n3_; clear hb hbox hg) | ((with_reducible refine gate_dst (N := 4) rfl ?_); refine gX 4 #[.int .i64 0, .int .i64 0] 26 ?_; intro gb279 hg w41 hbox hb; have n0_ := am (blk_below (bQ BK278.out) hb); have n1_ := am (below_step (bT HB.out) hb); have n2_ := am (hbox); have n3_ := am (gZ hg (bT HB.out)); have n4_ := am (gZ hg (bT HB.out)); have n5_ := am (gL hg (bQ BK278.out)); have n6_ := am (gG hg (bQ BK278.out)); clear BK278; clear HB; have BK278 := n0_; have HB := n1_; have BK279 := n2_; have GW279 := n3_; have GE279 := n4_; have NB278_279 := n5_; have NB279_278 := n6_; clear n0_ n1_ n2_ n3_ n4_ n5_ n6_; clear hb hbox hg; have hnb42 := NB278_279.out; have hnc42 := NB279_278.out; have hcz43_0 : w41.cell? ⟨gb278, 0, none⟩ = some (.int .i64 a1_0) := (blk_cell BK278.out 0).trans rfl; have hcz43_1 : w41.cell? ⟨gb278, 1, none⟩ = some (.int .i64 a1_1) := (blk_cell BK278.out 1).trans rfl; have hfz43_0 := blk_frozen BK278.out 0; have hfz43_1 := blk_frozen BK278.out 1) | ((with_reducible refine gate_callee (f := 35) rfl ?_); refine gC (some 13) Try.func35 #[.slice A0 l0.length c0, .agg #[.int .i64 a1_0, .int .i64 a1_1]] ?_; (with_reducible refine (impl_areBornOn.calls k _ _ l0 a1_0 a1_1 false _ ?side1 ?side2 A3.out).mono ?_); (case side1 => exact cY (Kd.C_below HR0.out HB.out)); (case side2 => exact HC0.out); rintro e w44 ⟨rfl, hb⟩; refine ⟨_, rfl, ?_⟩; have n0_ := am (blk_below (bQ BK278.out) hb); have n1_ := am (blk_below (bQ BK279.out) hb); have n2_ := am (below_step (bT HB.out) hb); clear BK278; clear BK279; clear HB; have BK278 := n0_; have BK279 := n1_; have HB := n2_; clear n0_ n1_ n2_; (try clear hb); (try clear hb2); (try clear hk); (try clear hi); have hcz45_0 : w44.cell? ⟨gb279, 0, none⟩ = some (.int .i64 0) := (blk_cell BK279.out 0).trans rfl; have hcz45_1 : w44.cell? ⟨gb279, 1, none⟩ = some (.int .i64 0) := (blk_cell BK279.out 1).trans rfl; have hfz45_0 := blk_frozen BK279.out 0; have hfz45_1 := blk_frozen BK279.out 1))
    refine bodyPost_ret (results_ctt rfl _ _ gb279 26 #[.int .i64 0, .int .i64 0] (0, 0) _ rfl (by (with_reducible repeat (first | refine blk_drewN ?_ _ | refine blk_drew ?_ | refine blk_alloc ?_ _)); refine blk_put (cs := #[.int .i64 0, .int .i64 0]) ?_ 1 _ rfl; (with_reducible repeat (first | refine blk_drewN ?_ _ | refine blk_drew ?_ | refine blk_alloc ?_ _)); refine blk_put (cs := #[.int .i64 0, .int .i64 0]) ?_ 0 _ rfl; (with_reducible repeat (first | refine blk_drewN ?_ _ | refine blk_drew ?_ | refine blk_alloc ?_ _)); exact BK279.out) Try.underlying26 rfl (by kernel_rfl)) rfl ?_
    exact ⟨_, by first | rfl | (simp [errW_none, errW_some] <;> rfl) | (simp [*, errW_none, errW_some] <;> rfl), by first | exact Kd.R_nil _ _ _ _ _ | exact Kd.N_nil _ _ _ _ _ | exact Kd.V_nil _ _ _ _ _ | exact Kd.Q_nil _ _ _ _ _ | exact Kd.S_nil _ _ _ _ _, by exact bT HB.out⟩

end Go.Proofs.Ytaabfjfdalcceaa.E
