-- WRITTEN by xprint.py, a program of this session that drives the kit's printer: out of the translation. Lean checks it.
import Derived.Test.YtaabfjfdalcceaaSig
import Derived.Test.YtaabfjfdalcceaaE0
import Derived.Test.YtaabfjfdalcceaaE3
import Derived.Test.YtaabfjfdalcceaaE5
import Derived.Test.YtaabfjfdalcceaaWMore
import Derived.Test.YtaabfjfdalcceaaWTab
namespace Go.Proofs.Ytaabfjfdalcceaa.E
open Go.RowKit Go.Proofs.YtaabfjfdalcceaaW.PrintWords Go.Proofs.YtaabfjfdalcceaaW.PrintLast Go.Proofs.YtaabfjfdalcceaaW.PrintMore
attribute [local go_sem] max2_int min2_int max_two min_two max_three min_three max_four min_four   -- for this text's walks alone
set_option linter.unusedVariables false
set_option linter.unusedSimpArgs false

/-! ### impl_NextBirthday: function 6 -/
def impl_NextBirthday.l0 : Nat → List (S26) → Int → List (S26) → Int → Int → Int → Int → Option (Int × Int × List Int × Bool)
  | 0, _, _, _, _, _, _, _ => none
  | k + 1, x0, x7, x15, x16, x17, x224000, x224001 => if x17 < x16 then (if 0 ≤ x17 then (if x17 < (x15.length : Int) then ((impl_Date_index.f ((rd_T26 x15 x17).f0) ((rd_T26 x15 x17).f1)).bind fun t228 => ((impl_Date_index.f x224000 x224001).bind fun t229 => ((impl_Date_age.f ((rd_T26 x15 x17).f0) ((rd_T26 x15 x17).f1) t229).bind fun t230 => (impl_NextBirthday.l0 k x0 (mn x7 (wrap64 (t228 + (wrap64 ((wrap64 (t230 + 1)) * 365))))) x15 x16 (wrap64 (x17 + 1)) x224000 x224001)))) else (none)) else (none)) else ((impl_birthdayOf.f k x0 x7).bind fun bt231 => (some (bt231.1, bt231.2.1, bt231.2.2.1, bt231.2.2.2)))
def impl_NextBirthday.f (k : Nat) (l0 : List (S26)) (a1_0 : Int) (a1_1 : Int) : Option (Int × Int × List Int × Bool) := (impl_areBornOn.f k l0 a1_0 a1_1).bind fun t225 => (if t225 = true then (impl_NextBirthday.l0 k l0 1095365 l0 (l0.length : Int) 0 a1_0 a1_1) else (some (0, 0, ([] : List Int), false)))
theorem impl_NextBirthday.mono_l : ∀ k, (∀ y0 y1 y2 y3 y4 y5 y6, LeO (impl_NextBirthday.l0 k y0 y1 y2 y3 y4 y5 y6) (impl_NextBirthday.l0 (k + 1) y0 y1 y2 y3 y4 y5 y6))
  | 0 => fun _ _ _ _ _ _ _ r h => by simp [impl_NextBirthday.l0] at h
  | k + 1 => by
    have ih0 := impl_NextBirthday.mono_l k
    · intro y0 y1 y2 y3 y4 y5 y6
      unfold impl_NextBirthday.l0
      repeat' first
      | (with_reducible exact ih0 _ _ _ _ _ _ _)
      | (with_reducible exact impl_areBornOn.mono _ _ _ _)
      | (with_reducible exact impl_birthdayOf.mono _ _ _)
      | (with_reducible exact LeO.refl _)
      | (with_reducible exact LeO.none _)
      | (with_reducible refine LeO.ite ?_ ?_)
      | (with_reducible refine LeO.bind ?_ (fun _ => ?_))
      | exact ih0 _ _ _ _ _ _ _
      | exact impl_areBornOn.mono _ _ _ _
      | exact impl_birthdayOf.mono _ _ _
      | exact LeO.none _
      | refine LeO.ite ?_ ?_
      | refine LeO.bind ?_ (fun _ => ?_)
theorem impl_NextBirthday.mono : ∀ a0 a1 a2 k, LeO (impl_NextBirthday.f k a0 a1 a2) (impl_NextBirthday.f (k + 1) a0 a1 a2) := by
  intro a0 a1 a2 k
  have ih0 := impl_NextBirthday.mono_l k
  unfold impl_NextBirthday.f
  repeat' first
      | (with_reducible exact ih0 _ _ _ _ _ _ _)
      | (with_reducible exact impl_areBornOn.mono _ _ _ _)
      | (with_reducible exact impl_birthdayOf.mono _ _ _)
      | (with_reducible exact LeO.refl _)
      | (with_reducible exact LeO.none _)
      | (with_reducible refine LeO.ite ?_ ?_)
      | (with_reducible refine LeO.bind ?_ (fun _ => ?_))
      | exact ih0 _ _ _ _ _ _ _
      | exact impl_areBornOn.mono _ _ _ _
      | exact impl_birthdayOf.mono _ _ _
      | exact LeO.none _
      | refine LeO.ite ?_ ?_
      | refine LeO.bind ?_ (fun _ => ?_)
def impl_NextBirthday.T7 : Bool × List (List Nat × List Nat) := (true, [([], []), ([], []), ([1], [1]), ([], []), ([], []), ([4, 2], [4]), ([3, 5, 5], [3, 5]), ([6], [6]), ([7], [7]), ([2, 8], [2, 8]), ([0, 9], [0, 9]), ([10, 6, 0, 1, 2, 3, 4, 5, 6, 7, 8, 9, 10], [0, 10])])
def impl_NextBirthday.B7 : List Nat := [0, 0, 2, 0, 0, 22, 62, 126, 254, 510, 1023, 2047]
theorem impl_NextBirthday.tab7 : rtab .any (opsOf Try.f6 7) = impl_NextBirthday.T7 := by kernel_rfl
theorem impl_NextBirthday.bits7 : waitsOk impl_NextBirthday.T7.2 impl_NextBirthday.B7 = true := by kernel_rfl
set_option maxHeartbeats 8000000 in
set_option maxRecDepth 100000 in
theorem impl_NextBirthday.calls (k : Nat) (A0 : Option Addr) (c0 : Nat) (l0 : List (S26)) (a1_0 : Int) (a1_1 : Int) (r1 : Int) (r2 : Int) (r3 : List Int) (r4 : Bool) (w : World) (hr0 : Kd.C k26 w A0 l0.length l0) (hc0 : l0.length ≤ c0) (h : impl_NextBirthday.f k l0 a1_0 a1_1 = some (r1, r2, r3, r4)) :
    Calls Try.prog 6 #[.slice A0 l0.length c0, .agg #[.int .i64 a1_0, .int .i64 a1_1]] w fun e w' => ∃ v2_ : Value, e = .returned (.tuple #[.agg #[.int .i64 r1, .int .i64 r2], v2_, .bool r4]) ∧ Kd.R (Kd.int .i64) 3 w' w.heap.size (fun _ => True) v2_ r3 ∧ Below w.heap.size w w' := by
  have hu26 := Try.underlying26
  have HR0 := am hr0
  have HC0 := am hc0
  clear hr0 hc0
  have HB := am (Below.refl w.heap.size w)
  have H : ((impl_areBornOn.f k l0 a1_0 a1_1).bind fun t225 => (if t225 = true then (impl_NextBirthday.l0 k l0 1095365 l0 (l0.length : Int) 0 a1_0 a1_1) else (some (0, 0, ([] : List Int), false)))) = some (r1, r2, r3, r4) := h
  clear h
  replace H := Option.bind_eq_some_iff.mp H
  obtain ⟨t225, A30, H⟩ := H
  replace H : (if t225 = true then (impl_NextBirthday.l0 k l0 1095365 l0 (l0.length : Int) 0 a1_0 a1_1) else (some (0, 0, ([] : List Int), false))) = some (r1, r2, r3, r4) := H
  have A3 := am A30
  clear A30
  by_cases c4 : t225 = true
  · subst c4
    have H1 : (impl_NextBirthday.l0 k l0 1095365 l0 (l0.length : Int) 0 a1_0 a1_1) = some (r1, r2, r3, r4) := by first | (rw [if_pos rfl] at H; exact H) | rfl
    clear H
    have H := H1
    clear H1
    have H' := am H
    clear H
    go_enter Try.func6, Try.ntmps6
    go_wp2_with (first | ((with_reducible refine gate_dst (N := 3) rfl ?_); refine gX 3 #[.int .i64 a1_0, .int .i64 a1_1] 26 ?_; intro gb223 hg w5 hbox hb; have n0_ := am (below_step (bY HB.out) hb); have n1_ := am (hbox); have n2_ := am (gZ hg (bY HB.out)); have n3_ := am (gZ hg (bY HB.out)); clear HB; have HB := n0_; have BK223 := n1_; have GW223 := n2_; have GE223 := n3_; clear n0_ n1_ n2_ n3_; clear hb hbox hg) | ((with_reducible refine gate_dst (N := 4) rfl ?_); refine gX 4 #[.int .i64 0, .int .i64 0] 26 ?_; intro gb224 hg w6 hbox hb; have n0_ := am (blk_below (bQ BK223.out) hb); have n1_ := am (below_step (bT HB.out) hb); have n2_ := am (hbox); have n3_ := am (gZ hg (bT HB.out)); have n4_ := am (gZ hg (bT HB.out)); have n5_ := am (gL hg (bQ BK223.out)); have n6_ := am (gG hg (bQ BK223.out)); clear BK223; clear HB; have BK223 := n0_; have HB := n1_; have BK224 := n2_; have GW224 := n3_; have GE224 := n4_; have NB223_224 := n5_; have NB224_223 := n6_; clear n0_ n1_ n2_ n3_ n4_ n5_ n6_; clear hb hbox hg; have hnb7 := NB223_224.out; have hnc7 := NB224_223.out; have hcz8_0 : w6.cell? ⟨gb223, 0, none⟩ = some (.int .i64 a1_0) := (blk_cell BK223.out 0).trans rfl; have hcz8_1 : w6.cell? ⟨gb223, 1, none⟩ = some (.int .i64 a1_1) := (blk_cell BK223.out 1).trans rfl; have hfz8_0 := blk_frozen BK223.out 0; have hfz8_1 := blk_frozen BK223.out 1) | ((with_reducible refine gate_callee (f := 35) rfl ?_); refine gC (some 12) Try.func35 #[.slice A0 l0.length c0, .agg #[.int .i64 a1_0, .int .i64 a1_1]] ?_; (with_reducible refine (impl_areBornOn.calls k _ _ l0 a1_0 a1_1 true _ ?side1 ?side2 A3.out).mono ?_); (case side1 => exact cY (Kd.C_below HR0.out HB.out)); (case side2 => exact HC0.out); rintro e w9 ⟨rfl, hb⟩; refine ⟨_, rfl, ?_⟩; have n0_ := am (blk_below (bQ BK223.out) hb); have n1_ := am (blk_below (bQ BK224.out) hb); have n2_ := am (below_step (bT HB.out) hb); clear BK223; clear BK224; clear HB; have BK223 := n0_; have BK224 := n1_; have HB := n2_; clear n0_ n1_ n2_; (try clear hb); (try clear hb2); (try clear hk); (try clear hi)))
    go_loopg [7, 17] k (fun kq v7 v17 w' => ∃ (x7_1 : Int) (x17_1 : Int), v7 = .int .i64 x7_1 ∧ v17 = .int .i64 x17_1 ∧ Aside0 (impl_NextBirthday.l0 kq l0 x7_1 l0 (l0.length : Int) x17_1 a1_0 a1_1 = some (r1, r2, r3, r4)) ∧ Aside0 (kq ≤ k) ∧ Aside0 (w'.heap[gb223]? = some (.cells #[.int .i64 a1_0, .int .i64 a1_1] 26 (0, 0))) ∧ Aside0 (w'.heap[gb224]? = some (.cells #[.int .i64 0, .int .i64 0] 26 (0, 0))) ∧ Aside0 (Below w.heap.size w w'))
    case atStart => exact ⟨(1095365), (0), (by first | rfl | (simp; done) | (simp [*]; done)), (by first | rfl | (simp; done) | (simp [*]; done)), H', ⟨Nat.le_refl _⟩, ⟨by (with_reducible repeat (first | refine blk_drewN ?_ _ | refine blk_drew ?_ | refine blk_alloc ?_ _)); exact BK223.out⟩, ⟨by (with_reducible repeat (first | refine blk_drewN ?_ _ | refine blk_drew ?_ | refine blk_alloc ?_ _)); exact BK224.out⟩, ⟨by exact bT HB.out⟩⟩
    case round =>
      clear H'
      try clear p2
      try clear c3
      try clear c4
      try clear c6
      try clear c7
      try clear hcz8_0
      try clear hcz8_1
      try clear hfz8_0
      try clear hfz8_1
      obtain ⟨x7_1, x17_1, rfl, rfl, HA, HK1, BK223, BK224, HB⟩ := hrel
      cases gk with
      | zero => exact absurd HA.out (by simp [impl_NextBirthday.l0])
      | succ k1 =>
        have H := HA.out
        clear HA
        simp only [impl_NextBirthday.l0] at H
        by_cases c10 : x17_1 < (l0.length : Int)
        · rw [if_pos c10] at H
          have c10b0 : decide (x17_1 < (l0.length : Int)) = true := decide_eq_true c10
          clear c10
          by_cases c11 : 0 ≤ x17_1
          · rw [if_pos c11] at H
            have c11b0 : decide (0 ≤ x17_1) = true := decide_eq_true c11
            clear c11
            by_cases c12 : x17_1 < (l0.length : Int)
            · rw [if_pos c12] at H
              have c12b0 : decide (x17_1 < (l0.length : Int)) = true := decide_eq_true c12
              clear c12
              replace H := Option.bind_eq_some_iff.mp H
              obtain ⟨t228, A130, H⟩ := H
              replace H : ((impl_Date_index.f a1_0 a1_1).bind fun t229 => ((impl_Date_age.f ((rd_T26 l0 x17_1).f0) ((rd_T26 l0 x17_1).f1) t229).bind fun t230 => (impl_NextBirthday.l0 k1 l0 (mn x7_1 (wrap64 (t228 + (wrap64 ((wrap64 (t230 + 1)) * 365))))) l0 (l0.length : Int) (wrap64 (x17_1 + 1)) a1_0 a1_1))) = some (r1, r2, r3, r4) := H
              have A13 := am A130
              clear A130
              replace H := Option.bind_eq_some_iff.mp H
              obtain ⟨t229, A140, H⟩ := H
              replace H : ((impl_Date_age.f ((rd_T26 l0 x17_1).f0) ((rd_T26 l0 x17_1).f1) t229).bind fun t230 => (impl_NextBirthday.l0 k1 l0 (mn x7_1 (wrap64 (t228 + (wrap64 ((wrap64 (t230 + 1)) * 365))))) l0 (l0.length : Int) (wrap64 (x17_1 + 1)) a1_0 a1_1)) = some (r1, r2, r3, r4) := H
              have A14 := am A140
              clear A140
              replace H := Option.bind_eq_some_iff.mp H
              obtain ⟨t230, A150, H⟩ := H
              replace H : (impl_NextBirthday.l0 k1 l0 (mn x7_1 (wrap64 (t228 + (wrap64 ((wrap64 (t230 + 1)) * 365))))) l0 (l0.length : Int) (wrap64 (x17_1 + 1)) a1_0 a1_1) = some (r1, r2, r3, r4) := H
              have A15 := am A150
              clear A150
              obtain ⟨ji16, hji16⟩ : ∃ j_ : Int, (mn x7_1 (wrap64 (t228 + (wrap64 ((wrap64 (t230 + 1)) * 365))))) = j_ := ⟨_, rfl⟩
              replace H : (impl_NextBirthday.l0 k1 l0 ji16 l0 (l0.length : Int) (wrap64 (x17_1 + 1)) a1_0 a1_1) = some (r1, r2, r3, r4) := by first | (rw [hji16] at H; exact H) | (simp only [hji16] at H ⊢; exact H)
              (try rw [hji16] at A13)
              (try rw [hji16] at A14)
              (try rw [hji16] at A15)
              have hji16_ : (if (wrap64 (t228 + (wrap64 ((wrap64 (t230 + 1)) * 365)))) < x7_1 then (wrap64 (t228 + (wrap64 ((wrap64 (t230 + 1)) * 365)))) else x7_1) = ji16 := hji16
              have H' := am H
              clear H
              have p226 : 0 ≤ (x17_1 : Int) := of_decide_eq_true (by first | (with_reducible assumption) | assumption)
              have q226 : x17_1 < (l0.length : Int) := of_decide_eq_true (by first | (with_reducible assumption) | assumption)
              obtain ⟨ad226, e226, hx226_0, hx226_1⟩ := at_T26 HR0.out x17_1 p226 q226
              cases e226
              replace hx226_0 := (HB.out.cell (World.block_lt_of_cell? w _ hx226_0)).trans hx226_0
              replace hx226_1 := (HB.out.cell (World.block_lt_of_cell? w _ hx226_1)).trans hx226_1
              replace p226 := eq_true p226
              replace q226 := eq_true q226
              try go_wp2_with (first | ((with_reducible refine gate_dst (N := 9) rfl ?_); refine gX 9 #[.int .i64 0, .int .i64 0] 26 ?_; intro gb227 hg w17 hbox hb; have n0_ := am (blk_below (bQ BK223.out) hb); have n1_ := am (blk_below (bQ BK224.out) hb); have n2_ := am (below_step (bT HB.out) hb); have n3_ := am (hbox); have n4_ := am (gZ hg (bT HB.out)); have n5_ := am (gZ hg (bT HB.out)); have n6_ := am (gL hg (bQ BK223.out)); have n7_ := am (gG hg (bQ BK223.out)); have n8_ := am (gL hg (bQ BK224.out)); have n9_ := am (gG hg (bQ BK224.out)); clear BK223; clear BK224; clear HB; have BK223 := n0_; have BK224 := n1_; have HB := n2_; have BK227 := n3_; have GW227 := n4_; have GE227 := n5_; have NB223_227 := n6_; have NB227_223 := n7_; have NB224_227 := n8_; have NB227_224 := n9_; clear n0_ n1_ n2_ n3_ n4_ n5_ n6_ n7_ n8_ n9_; clear hb hbox hg; have hnb18 := NB227_223.out; have hnc18 := NB223_227.out; have hnb19 := NB227_224.out; have hnc19 := NB224_227.out; have hcz20_0 : w17.cell? ⟨gb227, 0, none⟩ = some (.int .i64 0) := (blk_cell BK227.out 0).trans rfl; have hcz20_1 : w17.cell? ⟨gb227, 1, none⟩ = some (.int .i64 0) := (blk_cell BK227.out 1).trans rfl; have hfz20_0 := blk_frozen BK227.out 0; have hfz20_1 := blk_frozen BK227.out 1))
              have n0_ : Aside0 (((w17.setCell ⟨gb227, 0, none⟩ (.int .i64 ((rd_T26 l0 x17_1).f0))).setCell ⟨gb227, 1, none⟩ (.int .i64 ((rd_T26 l0 x17_1).f1))).heap[gb223]? = some (.cells #[.int .i64 a1_0, .int .i64 a1_1] 26 (0, 0))) := ⟨by (with_reducible repeat (first | refine blk_drewN ?_ _ | refine blk_drew ?_ | refine blk_alloc ?_ _)); refine blk_far ?_ NB223_227.out _; (with_reducible repeat (first | refine blk_drewN ?_ _ | refine blk_drew ?_ | refine blk_alloc ?_ _)); refine blk_far ?_ NB223_227.out _; (with_reducible repeat (first | refine blk_drewN ?_ _ | refine blk_drew ?_ | refine blk_alloc ?_ _)); exact BK223.out⟩
              have n1_ : Aside0 (((w17.setCell ⟨gb227, 0, none⟩ (.int .i64 ((rd_T26 l0 x17_1).f0))).setCell ⟨gb227, 1, none⟩ (.int .i64 ((rd_T26 l0 x17_1).f1))).heap[gb224]? = some (.cells #[.int .i64 0, .int .i64 0] 26 (0, 0))) := ⟨by (with_reducible repeat (first | refine blk_drewN ?_ _ | refine blk_drew ?_ | refine blk_alloc ?_ _)); refine blk_far ?_ NB224_227.out _; (with_reducible repeat (first | refine blk_drewN ?_ _ | refine blk_drew ?_ | refine blk_alloc ?_ _)); refine blk_far ?_ NB224_227.out _; (with_reducible repeat (first | refine blk_drewN ?_ _ | refine blk_drew ?_ | refine blk_alloc ?_ _)); exact BK224.out⟩
              have n2_ : Aside0 (((w17.setCell ⟨gb227, 0, none⟩ (.int .i64 ((rd_T26 l0 x17_1).f0))).setCell ⟨gb227, 1, none⟩ (.int .i64 ((rd_T26 l0 x17_1).f1))).heap[gb227]? = some (.cells #[.int .i64 ((rd_T26 l0 x17_1).f0), .int .i64 ((rd_T26 l0 x17_1).f1)] 26 (0, 0))) := ⟨by (with_reducible repeat (first | refine blk_drewN ?_ _ | refine blk_drew ?_ | refine blk_alloc ?_ _)); refine blk_put (cs := #[.int .i64 ((rd_T26 l0 x17_1).f0), .int .i64 0]) ?_ 1 _ rfl; (with_reducible repeat (first | refine blk_drewN ?_ _ | refine blk_drew ?_ | refine blk_alloc ?_ _)); refine blk_put (cs := #[.int .i64 0, .int .i64 0]) ?_ 0 _ rfl; (with_reducible repeat (first | refine blk_drewN ?_ _ | refine blk_drew ?_ | refine blk_alloc ?_ _)); exact BK227.out⟩
              have n3_ : Aside0 (Below w.heap.size w ((w17.setCell ⟨gb227, 0, none⟩ (.int .i64 ((rd_T26 l0 x17_1).f0))).setCell ⟨gb227, 1, none⟩ (.int .i64 ((rd_T26 l0 x17_1).f1)))) := ⟨by exact bT HB.out⟩
              (try clear BK223)
              (try clear BK224)
              (try clear BK227)
              (try clear HB)
              generalize ((w17.setCell ⟨gb227, 0, none⟩ (.int .i64 ((rd_T26 l0 x17_1).f0))).setCell ⟨gb227, 1, none⟩ (.int .i64 ((rd_T26 l0 x17_1).f1))) = w21 at n0_ n1_ n2_ n3_ ⊢
              have BK223 := n0_
              have BK224 := n1_
              have BK227 := n2_
              have HB := n3_
              clear n0_ n1_ n2_ n3_
              have n0_ := am (blk_drew BK223.out)
              have n1_ := am (blk_drew BK224.out)
              have n2_ := am (blk_drew BK227.out)
              have n3_ := am (below_drew1 HB.out)
              clear BK223
              clear BK224
              clear BK227
              clear HB
              have BK223 := n0_
              have BK224 := n1_
              have BK227 := n2_
              have HB := n3_
              clear n0_ n1_ n2_ n3_
              refine start_ (n := 12) (S := fun w' => w'.cell? ⟨gb227, 0, none⟩ = some (.int .i64 ((rd_T26 l0 x17_1).f0)) ∧ w'.cell? ⟨gb227, 1, none⟩ = some (.int .i64 ((rd_T26 l0 x17_1).f1)) ∧ w'.cell? ⟨gb223, 0, none⟩ = some (.int .i64 a1_0) ∧ w'.cell? ⟨gb223, 1, none⟩ = some (.int .i64 a1_1)) (ds := []) #[false, false, false, false, false, false, false, false, false, false, false, false] (by kernel_rfl) rfl rfl ⟨(blk_cell BK227.out 0).trans rfl, (blk_cell BK227.out 1).trans rfl, (blk_cell BK223.out 0).trans rfl, (blk_cell BK223.out 1).trans rfl⟩ (fun hHeld => ?_); refine with_tabW impl_NextBirthday.tab7 impl_NextBirthday.bits7 (fun HT_ HW_ => ?_)
              generalize w21.drew = w22 at BK223 BK224 BK227 HB hHeld ⊢
              refine pure_ (i := 0) (N := some 21) (v := ?_) (a' := ?_) #[true, false, false, false, false, false, false, false, false, false, false, false] rfl rfl (any_of HT_.out (by kernel_rfl)) (fun _ _ _ h => h) (Or.inl ⟨by rfl, ?_⟩) ?_ ?_
              rotate_left
              · intro w'
                go_simp
                with_reducible rfl
              rotate_left
              · simp only [Act.put, List.setIfInBounds_toArray, List.set_cons_zero, List.set_cons_succ, i64_w, i32_w]
                rfl
              refine take_ (i := 1) (N := some 22) (v := ?_) (a' := ?_) #[true, true, false, false, false, false, false, false, false, false, false, false] rfl rfl (take_ofW HT_.out HW_.out (by kernel_rfl)) (fun _ _ _ h => h) (Or.inl ⟨by rfl, ?_⟩) hHeld ?_ ?_
              rotate_left
              · rintro w' ⟨s0, s1, s2, s3⟩
                go_simp
                with_reducible rfl
              rotate_left
              · simp only [Act.put, List.setIfInBounds_toArray, List.set_cons_zero, List.set_cons_succ, i64_w, i32_w]
                rfl
              refine take_ (i := 3) (N := some 24) (v := ?_) (a' := ?_) #[true, true, false, true, false, false, false, false, false, false, false, false] rfl rfl (take_ofW HT_.out HW_.out (by kernel_rfl)) (fun _ _ _ h => h) (Or.inl ⟨by rfl, ?_⟩) hHeld ?_ ?_
              rotate_left
              · rintro w' ⟨s0, s1, s2, s3⟩
                go_simp
                with_reducible rfl
              rotate_left
              · simp only [Act.put, List.setIfInBounds_toArray, List.set_cons_zero, List.set_cons_succ, i64_w, i32_w]
                rfl
              refine take_ (i := 4) (N := some 25) (v := ?_) (a' := ?_) #[true, true, false, true, true, false, false, false, false, false, false, false] rfl rfl (take_ofW HT_.out HW_.out (by kernel_rfl)) (fun _ _ _ h => h) (Or.inl ⟨by rfl, ?_⟩) hHeld ?_ ?_
              rotate_left
              · rintro w' ⟨s0, s1, s2, s3⟩
                go_simp
                with_reducible rfl
              rotate_left
              · simp only [Act.put, List.setIfInBounds_toArray, List.set_cons_zero, List.set_cons_succ, i64_w, i32_w]
                rfl
              refine one_ (i := 2) (N := some 23) #[true, true, true, true, true, false, false, false, false, false, false, false] rfl rfl (one_of HT_.out (by kernel_rfl)) (by decide) (fun K hK => ?_)
              refine goes_ Try.func36 (by kernel_rfl) rfl #[.agg #[.int .i64 ((rd_T26 l0 x17_1).f0), .int .i64 ((rd_T26 l0 x17_1).f1)]] (by rfl) rfl rfl (by (try simp only [List.map_toArray, List.map_cons, List.map_nil]); first | done | rfl | (simp only [List.length_drop, List.length_take]; rfl)) ?_
              with_reducible refine (impl_Date_index.calls ((rd_T26 l0 x17_1).f0) ((rd_T26 l0 x17_1).f1) t228 _ A13.out).mono ?_
              rintro e w23 ⟨rfl, hb⟩
              refine ⟨_, rfl, ?_⟩
              have n0_ := am (blk_below (bQ BK223.out) hb)
              have n1_ := am (blk_below (bQ BK224.out) hb)
              have n2_ := am (blk_below (bQ BK227.out) hb)
              have n3_ := am (below_step (bT HB.out) hb)
              clear BK223
              clear BK224
              clear BK227
              clear HB
              have BK223 := n0_
              have BK224 := n1_
              have BK227 := n2_
              have HB := n3_
              clear n0_ n1_ n2_ n3_
              (try clear hb)
              (try clear hb2)
              (try clear hk)
              (try clear hi)
              refine hK.out _ _ ⟨(blk_cell BK227.out 0).trans rfl, (blk_cell BK227.out 1).trans rfl, (blk_cell BK223.out 0).trans rfl, (blk_cell BK223.out 1).trans rfl⟩ (fun hHeld => ?_)
              clear hK K
              refine norm_ (a' := ?_) ?_ ?_
              rotate_left
              · show Act.put _ (some 23) _ = _
                simp only [Act.put, List.setIfInBounds_toArray, List.set_cons_zero, List.set_cons_succ, i64_w, i32_w]
                rfl
              refine one_ (i := 5) (N := some 26) #[true, true, true, true, true, true, false, false, false, false, false, false] rfl rfl (one_of HT_.out (by kernel_rfl)) (by decide) (fun K hK => ?_)
              refine goes_ Try.func36 (by kernel_rfl) rfl #[.agg #[.int .i64 a1_0, .int .i64 a1_1]] (by rfl) rfl rfl (by (try simp only [List.map_toArray, List.map_cons, List.map_nil]); first | done | rfl | (simp only [List.length_drop, List.length_take]; rfl)) ?_
              with_reducible refine (impl_Date_index.calls a1_0 a1_1 t229 _ A14.out).mono ?_
              rintro e w24 ⟨rfl, hb⟩
              refine ⟨_, rfl, ?_⟩
              have n0_ := am (blk_below (bQ BK223.out) hb)
              have n1_ := am (blk_below (bQ BK224.out) hb)
              have n2_ := am (blk_below (bQ BK227.out) hb)
              have n3_ := am (below_step (bT HB.out) hb)
              clear BK223
              clear BK224
              clear BK227
              clear HB
              have BK223 := n0_
              have BK224 := n1_
              have BK227 := n2_
              have HB := n3_
              clear n0_ n1_ n2_ n3_
              (try clear hb)
              (try clear hb2)
              (try clear hk)
              (try clear hi)
              refine hK.out _ _ ⟨(blk_cell BK227.out 0).trans rfl, (blk_cell BK227.out 1).trans rfl, (blk_cell BK223.out 0).trans rfl, (blk_cell BK223.out 1).trans rfl⟩ (fun hHeld => ?_)
              clear hK K
              refine norm_ (a' := ?_) ?_ ?_
              rotate_left
              · show Act.put _ (some 26) _ = _
                simp only [Act.put, List.setIfInBounds_toArray, List.set_cons_zero, List.set_cons_succ, i64_w, i32_w]
                rfl
              refine one_ (i := 6) (N := some 27) #[true, true, true, true, true, true, true, false, false, false, false, false] rfl rfl (one_of HT_.out (by kernel_rfl)) (by decide) (fun K hK => ?_)
              refine goes_ Try.func37 (by kernel_rfl) rfl #[.agg #[.int .i64 ((rd_T26 l0 x17_1).f0), .int .i64 ((rd_T26 l0 x17_1).f1)], .int .i64 t229] (by rfl) rfl rfl (by (try simp only [List.map_toArray, List.map_cons, List.map_nil]); first | done | rfl | (simp only [List.length_drop, List.length_take]; rfl)) ?_
              with_reducible refine (impl_Date_age.calls ((rd_T26 l0 x17_1).f0) ((rd_T26 l0 x17_1).f1) t229 t230 _ A15.out).mono ?_
              rintro e w25 ⟨rfl, hb⟩
              refine ⟨_, rfl, ?_⟩
              have n0_ := am (blk_below (bQ BK223.out) hb)
              have n1_ := am (blk_below (bQ BK224.out) hb)
              have n2_ := am (blk_below (bQ BK227.out) hb)
              have n3_ := am (below_step (bT HB.out) hb)
              clear BK223
              clear BK224
              clear BK227
              clear HB
              have BK223 := n0_
              have BK224 := n1_
              have BK227 := n2_
              have HB := n3_
              clear n0_ n1_ n2_ n3_
              (try clear hb)
              (try clear hb2)
              (try clear hk)
              (try clear hi)
              refine hK.out _ _ ⟨(blk_cell BK227.out 0).trans rfl, (blk_cell BK227.out 1).trans rfl, (blk_cell BK223.out 0).trans rfl, (blk_cell BK223.out 1).trans rfl⟩ (fun hHeld => ?_)
              clear hK K
              refine norm_ (a' := ?_) ?_ ?_
              rotate_left
              · show Act.put _ (some 27) _ = _
                simp only [Act.put, List.setIfInBounds_toArray, List.set_cons_zero, List.set_cons_succ, i64_w, i32_w]
                rfl
              refine pure_ (i := 7) (N := some 28) (v := ?_) (a' := ?_) #[true, true, true, true, true, true, true, true, false, false, false, false] rfl rfl (any_of HT_.out (by kernel_rfl)) (fun _ _ _ h => h) (Or.inl ⟨by rfl, ?_⟩) ?_ ?_
              rotate_left
              · intro w'
                go_simp
                with_reducible rfl
              rotate_left
              · simp only [Act.put, List.setIfInBounds_toArray, List.set_cons_zero, List.set_cons_succ, i64_w, i32_w]
                rfl
              refine pure_ (i := 8) (N := some 29) (v := ?_) (a' := ?_) #[true, true, true, true, true, true, true, true, true, false, false, false] rfl rfl (any_of HT_.out (by kernel_rfl)) (fun _ _ _ h => h) (Or.inl ⟨by rfl, ?_⟩) ?_ ?_
              rotate_left
              · intro w'
                go_simp
                with_reducible rfl
              rotate_left
              · simp only [Act.put, List.setIfInBounds_toArray, List.set_cons_zero, List.set_cons_succ, i64_w, i32_w]
                rfl
              refine pure_ (i := 9) (N := some 30) (v := ?_) (a' := ?_) #[true, true, true, true, true, true, true, true, true, true, false, false] rfl rfl (any_of HT_.out (by kernel_rfl)) (fun _ _ _ h => h) (Or.inl ⟨by rfl, ?_⟩) ?_ ?_
              rotate_left
              · intro w'
                go_simp
                with_reducible rfl
              rotate_left
              · simp only [Act.put, List.setIfInBounds_toArray, List.set_cons_zero, List.set_cons_succ, i64_w, i32_w]
                rfl
              refine pure_ (i := 10) (N := some 31) (v := ?_) (a' := ?_) #[true, true, true, true, true, true, true, true, true, true, true, false] rfl rfl (any_of HT_.out (by kernel_rfl)) (fun _ _ _ h => h) (Or.inl ⟨by rfl, ?_⟩) ?_ ?_
              rotate_left
              · intro w'
                go_simp
                with_reducible rfl
              rotate_left
              · simp only [Act.put, List.setIfInBounds_toArray, List.set_cons_zero, List.set_cons_succ, i64_w, i32_w]
                rfl
              refine pure_ (i := 11) (N := some 7) (v := ?_) (a' := ?_) #[true, true, true, true, true, true, true, true, true, true, true, true] rfl rfl (any_of HT_.out (by kernel_rfl)) (fun _ _ _ h => h) (Or.inl ⟨by rfl, ?_⟩) ?_ ?_
              rotate_left
              · intro w'
                go_simp
                with_reducible rfl
              rotate_left
              · simp only [Act.put, List.setIfInBounds_toArray, List.set_cons_zero, List.set_cons_succ, i64_w, i32_w]
                rfl
              refine done_ (done_of HT_.out (by kernel_rfl)) ?_
              try go_wp2
              go_roundg k1
              case measure => have := HK1.out; omega
              case rel => exact ⟨(ji16), (wrap64 (x17_1 + 1)), (by first | rfl | (simp; done) | (simp only [← hji16] <;> (first | rfl | simp)) | (simp [*]; done)), (by first | rfl | (simp; done) | (simp [*]; done)), H', ⟨by have := HK1.out; omega⟩, ⟨by (with_reducible repeat (first | refine blk_drewN ?_ _ | refine blk_drew ?_ | refine blk_alloc ?_ _)); exact BK223.out⟩, ⟨by (with_reducible repeat (first | refine blk_drewN ?_ _ | refine blk_drew ?_ | refine blk_alloc ?_ _)); exact BK224.out⟩, ⟨by exact bT HB.out⟩⟩
            · rw [if_neg c12] at H
              exact absurd H (by simp)
          · rw [if_neg c11] at H
            exact absurd H (by simp)
        · rw [if_neg c10] at H
          have c10b0 : decide (x17_1 < (l0.length : Int)) = false := decide_eq_false c10
          clear c10
          replace H := Option.bind_eq_some_iff.mp H
          obtain ⟨⟨t231, t232, t233, t236⟩, A260, H⟩ := H
          replace H : (some (t231, t232, t233, t236)) = some (r1, r2, r3, r4) := H
          have A26 := am A260
          clear A260
          simp only [Option.some.injEq, Prod.mk.injEq] at H
          obtain ⟨rfl, rfl, rfl, rfl⟩ := H
          go_wp2_with (first | ((with_reducible refine gate_callee (f := 38) rfl ?_); refine gC (some 35) Try.func38 #[.slice A0 l0.length c0, .int .i64 x7_1] ?_; (with_reducible refine (impl_birthdayOf.calls k1 _ _ l0 x7_1 t231 t232 t233 t236 _ ?side1 ?side2 A26.out).mono ?_); (case side1 => exact cY (Kd.C_below HR0.out HB.out)); (case side2 => exact HC0.out); rintro e w27 ⟨v234, rfl, ho0, hb⟩; refine ⟨_, rfl, ?_⟩; have n0_ := am (Kd.R_lower ho0 (below_size (bT HB.out))); have n1_ := am (blk_below (bQ BK223.out) hb); have n2_ := am (blk_below (bQ BK224.out) hb); have n3_ := am (below_step (bT HB.out) hb); clear BK223; clear BK224; clear HB; have HO235 := n0_; have BK223 := n1_; have BK224 := n2_; have HB := n3_; clear n0_ n1_ n2_ n3_; (try clear hb); (try clear hb2); (try clear hk); (try clear hi); (try clear ho0); have hnb28 := NB224_223.out; have hnc28 := NB223_224.out; have hcz29_0 : w27.cell? ⟨gb224, 0, none⟩ = some (.int .i64 0) := (blk_cell BK224.out 0).trans rfl; have hcz29_1 : w27.cell? ⟨gb224, 1, none⟩ = some (.int .i64 0) := (blk_cell BK224.out 1).trans rfl; have hfz29_0 := blk_frozen BK224.out 0; have hfz29_1 := blk_frozen BK224.out 1))
          refine bodyPost_ret (results_ctt rfl _ _ gb224 26 #[.int .i64 t231, .int .i64 t232] (0, 0) _ rfl (by (with_reducible repeat (first | refine blk_drewN ?_ _ | refine blk_drew ?_ | refine blk_alloc ?_ _)); refine blk_put (cs := #[.int .i64 t231, .int .i64 0]) ?_ 1 _ rfl; (with_reducible repeat (first | refine blk_drewN ?_ _ | refine blk_drew ?_ | refine blk_alloc ?_ _)); refine blk_put (cs := #[.int .i64 0, .int .i64 0]) ?_ 0 _ rfl; (with_reducible repeat (first | refine blk_drewN ?_ _ | refine blk_drew ?_ | refine blk_alloc ?_ _)); exact BK224.out) Try.underlying26 rfl (by kernel_rfl)) rfl ?_
          exact ⟨_, by first | rfl | (simp [errW_none, errW_some] <;> rfl) | (simp [*, errW_none, errW_some] <;> rfl), by (with_reducible repeat (first | apply Kd.R_alloc | apply Kd.R_drewN | apply Kd.R_drew)); exact Kd.R_mono (Kd.R_far (p := ⟨gb224, 1, none⟩) (Kd.R_far (p := ⟨gb224, 0, none⟩) (Kd.R_types HO235.out BK224.out (by decide)) (fun _ hk => hk.2) (.int .i64 t231)) (fun _ hk => hk.2) (.int .i64 t232)) (fun _ hk => trivial), by exact bT HB.out⟩
  · replace c4 := Bool.eq_false_iff.mpr c4
    subst c4
    have H1 : (some (0, 0, ([] : List Int), false)) = some (r1, r2, r3, r4) := by first | (rw [if_neg (show ¬ (false = true) by decide)] at H; exact H) | rfl
    clear H
    have H := H1
    clear H1
    simp only [Option.some.injEq, Prod.mk.injEq] at H
    obtain ⟨rfl, rfl, rfl, rfl⟩ := H
    go_enter Try.func6, Try.ntmps6
    go_wp2_with (first | ((with_reducible refine gate_dst (N := 3) rfl ?_); refine gX 3 #[.int .i64 a1_0, .int .i64 a1_1] 26 ?_; intro gb223 hg w30 hbox hb; have n0_ := am (below_step (bY HB.out) hb); have n1_ := am (hbox); have n2_ := am (gZ hg (bY HB.out)); have n3_ := am (gZ hg (bY HB.out)); clear HB; have HB := n0_; have BK223 := n1_; have GW223 := n2_; have GE223 := n3_; clear n0_ n1_ n2_ n3_; clear hb hbox hg) | ((with_reducible refine gate_dst (N := 4) rfl ?_); refine gX 4 #[.int .i64 0, .int .i64 0] 26 ?_; intro gb224 hg w31 hbox hb; have n0_ := am (blk_below (bQ BK223.out) hb); have n1_ := am (below_step (bT HB.out) hb); have n2_ := am (hbox); have n3_ := am (gZ hg (bT HB.out)); have n4_ := am (gZ hg (bT HB.out)); have n5_ := am (gL hg (bQ BK223.out)); have n6_ := am (gG hg (bQ BK223.out)); clear BK223; clear HB; have BK223 := n0_; have HB := n1_; have BK224 := n2_; have GW224 := n3_; have GE224 := n4_; have NB223_224 := n5_; have NB224_223 := n6_; clear n0_ n1_ n2_ n3_ n4_ n5_ n6_; clear hb hbox hg; have hnb32 := NB223_224.out; have hnc32 := NB224_223.out; have hcz33_0 : w31.cell? ⟨gb223, 0, none⟩ = some (.int .i64 a1_0) := (blk_cell BK223.out 0).trans rfl; have hcz33_1 : w31.cell? ⟨gb223, 1, none⟩ = some (.int .i64 a1_1) := (blk_cell BK223.out 1).trans rfl; have hfz33_0 := blk_frozen BK223.out 0; have hfz33_1 := blk_frozen BK223.out 1) | ((with_reducible refine gate_callee (f := 35) rfl ?_); refine gC (some 12) Try.func35 #[.slice A0 l0.length c0, .agg #[.int .i64 a1_0, .int .i64 a1_1]] ?_; (with_reducible refine (impl_areBornOn.calls k _ _ l0 a1_0 a1_1 false _ ?side1 ?side2 A3.out).mono ?_); (case side1 => exact cY (Kd.C_below HR0.out HB.out)); (case side2 => exact HC0.out); rintro e w34 ⟨rfl, hb⟩; refine ⟨_, rfl, ?_⟩; have n0_ := am (blk_below (bQ BK223.out) hb); have n1_ := am (blk_below (bQ BK224.out) hb); have n2_ := am (below_step (bT HB.out) hb); clear BK223; clear BK224; clear HB; have BK223 := n0_; have BK224 := n1_; have HB := n2_; clear n0_ n1_ n2_; (try clear hb); (try clear hb2); (try clear hk); (try clear hi); have hcz35_0 : w34.cell? ⟨gb224, 0, none⟩ = some (.int .i64 0) := (blk_cell BK224.out 0).trans rfl; have hcz35_1 : w34.cell? ⟨gb224, 1, none⟩ = some (.int .i64 0) := (blk_cell BK224.out 1).trans rfl; have hfz35_0 := blk_frozen BK224.out 0; have hfz35_1 := blk_frozen BK224.out 1))
    refine bodyPost_ret (results_ctt rfl _ _ gb224 26 #[.int .i64 0, .int .i64 0] (0, 0) _ rfl (by (with_reducible repeat (first | refine blk_drewN ?_ _ | refine blk_drew ?_ | refine blk_alloc ?_ _)); refine blk_put (cs := #[.int .i64 0, .int .i64 0]) ?_ 1 _ rfl; (with_reducible repeat (first | refine blk_drewN ?_ _ | refine blk_drew ?_ | refine blk_alloc ?_ _)); refine blk_put (cs := #[.int .i64 0, .int .i64 0]) ?_ 0 _ rfl; (with_reducible repeat (first | refine blk_drewN ?_ _ | refine blk_drew ?_ | refine blk_alloc ?_ _)); exact BK224.out) Try.underlying26 rfl (by kernel_rfl)) rfl ?_
    exact ⟨_, by first | rfl | (simp [errW_none, errW_some] <;> rfl) | (simp [*, errW_none, errW_some] <;> rfl), by first | exact Kd.R_nil _ _ _ _ _ | exact Kd.N_nil _ _ _ _ _ | exact Kd.V_nil _ _ _ _ _ | exact Kd.Q_nil _ _ _ _ _ | exact Kd.S_nil _ _ _ _ _, by exact bT HB.out⟩

/-! ### spec_biDays: function 41 -/
def spec_biDays.f (a0_0 : Int) (a0_1 : Int) : Option (Int) := some (wrap64 ((wrap64 ((wrap64 (a0_0 * 365)) + a0_1)) - 1))
set_option maxHeartbeats 8000000 in
set_option maxRecDepth 100000 in
theorem spec_biDays.calls (a0_0 : Int) (a0_1 : Int) (r : Int) (w : World) (h : spec_biDays.f a0_0 a0_1 = some r) :
    Calls Try.prog 41 #[.agg #[.int .i64 a0_0, .int .i64 a0_1]] w fun e w' => e = .returned (.int .i64 r) ∧ Below w.heap.size w w' := by
  have hu26 := Try.underlying26
  have HB := am (Below.refl w.heap.size w)
  have H : (some (wrap64 ((wrap64 ((wrap64 (a0_0 * 365)) + a0_1)) - 1))) = some r := h
  clear h
  obtain rfl := Option.some.inj H
  go_enter Try.func41, Try.ntmps41
  go_wp2_with (first | ((with_reducible refine gate_dst (N := 1) rfl ?_); refine gX 1 #[.int .i64 a0_0, .int .i64 a0_1] 26 ?_; intro gb237 hg w2 hbox hb; have n0_ := am (below_step (bY HB.out) hb); have n1_ := am (hbox); have n2_ := am (gZ hg (bY HB.out)); have n3_ := am (gZ hg (bY HB.out)); clear HB; have HB := n0_; have BK237 := n1_; have GW237 := n2_; have GE237 := n3_; clear n0_ n1_ n2_ n3_; clear hb hbox hg; have hcz3_0 : w2.cell? ⟨gb237, 0, none⟩ = some (.int .i64 a0_0) := (blk_cell BK237.out 0).trans rfl; have hcz3_1 : w2.cell? ⟨gb237, 1, none⟩ = some (.int .i64 a0_1) := (blk_cell BK237.out 1).trans rfl; have hfz3_0 := blk_frozen BK237.out 0; have hfz3_1 := blk_frozen BK237.out 1))
  go_ret
  exact ⟨by first | rfl | (simp [errW_none, errW_some] <;> rfl) | (simp [*, errW_none, errW_some] <;> rfl), by exact bT HB.out⟩

/-! ### spec_l1In: function 53 -/
def spec_l1In.f (a0 : Int) (a1 : Int) (a2 : Int) : Option (Bool) := if a0 ≥ a1 then (some (decide (a0 ≤ a2))) else (some false)
set_option maxHeartbeats 8000000 in
set_option maxRecDepth 100000 in
theorem spec_l1In.calls (a0 : Int) (a1 : Int) (a2 : Int) (r : Bool) (w : World) (h : spec_l1In.f a0 a1 a2 = some r) :
    Calls Try.prog 53 #[.int .i64 a0, .int .i64 a1, .int .i64 a2] w fun e w' => e = .returned (.bool r) ∧ Drawn0 w w' := by
  have H : (if a0 ≥ a1 then (some (decide (a0 ≤ a2))) else (some false)) = some r := h
  clear h
  by_cases c4 : a0 ≥ a1
  · rw [if_pos c4] at H
    have c4b0 : decide (a1 ≤ a0) = true := decide_eq_true c4
    clear c4
    obtain rfl := Option.some.inj H
    go_enter Try.func53, Try.ntmps53
    go_wp2
    go_ret
    exact ⟨by first | rfl | (simp; done) | (simp [*]; done), by repeat (first | exact Drawn0.refl _ | apply Drawn0.step)⟩
  · rw [if_neg c4] at H
    have c4b0 : decide (a1 ≤ a0) = false := decide_eq_false c4
    clear c4
    obtain rfl := Option.some.inj H
    go_enter Try.func53, Try.ntmps53
    go_wp2
    go_ret
    exact ⟨by first | rfl | (simp; done) | (simp [*]; done), by repeat (first | exact Drawn0.refl _ | apply Drawn0.step)⟩

/-! ### spec_biDate: function 51 -/
def spec_biDate.f (a0_0 : Int) (a0_1 : Int) : Option (Bool) := (spec_l1In.f a0_0 0 3000).bind fun t239 => (if t239 = true then ((spec_l1In.f a0_1 1 365).bind fun t240 => (some t240)) else (some false))
set_option maxHeartbeats 8000000 in
set_option maxRecDepth 100000 in
theorem spec_biDate.calls (a0_0 : Int) (a0_1 : Int) (r : Bool) (w : World) (h : spec_biDate.f a0_0 a0_1 = some r) :
    Calls Try.prog 51 #[.agg #[.int .i64 a0_0, .int .i64 a0_1]] w fun e w' => e = .returned (.bool r) ∧ Below w.heap.size w w' := by
  have hu26 := Try.underlying26
  have HB := am (Below.refl w.heap.size w)
  have H : ((spec_l1In.f a0_0 0 3000).bind fun t239 => (if t239 = true then ((spec_l1In.f a0_1 1 365).bind fun t240 => (some t240)) else (some false))) = some r := h
  clear h
  replace H := Option.bind_eq_some_iff.mp H
  obtain ⟨t239, A20, H⟩ := H
  replace H : (if t239 = true then ((spec_l1In.f a0_1 1 365).bind fun t240 => (some t240)) else (some false)) = some r := H
  have A2 := am A20
  clear A20
  by_cases c3 : t239 = true
  · subst c3
    have H1 : ((spec_l1In.f a0_1 1 365).bind fun t240 => (some t240)) = some r := by first | (rw [if_pos rfl] at H; exact H) | rfl
    clear H
    have H := H1
    clear H1
    replace H := Option.bind_eq_some_iff.mp H
    obtain ⟨t240, A40, H⟩ := H
    replace H : (some t240) = some r := H
    have A4 := am A40
    clear A40
    obtain rfl := Option.some.inj H
    go_enter Try.func51, Try.ntmps51
    go_wp2_with (first | ((with_reducible refine gate_dst (N := 1) rfl ?_); refine gX 1 #[.int .i64 a0_0, .int .i64 a0_1] 26 ?_; intro gb238 hg w5 hbox hb; have n0_ := am (below_step (bY HB.out) hb); have n1_ := am (hbox); have n2_ := am (gZ hg (bY HB.out)); have n3_ := am (gZ hg (bY HB.out)); clear HB; have HB := n0_; have BK238 := n1_; have GW238 := n2_; have GE238 := n3_; clear n0_ n1_ n2_ n3_; clear hb hbox hg; have hcz6_0 : w5.cell? ⟨gb238, 0, none⟩ = some (.int .i64 a0_0) := (blk_cell BK238.out 0).trans rfl; have hcz6_1 : w5.cell? ⟨gb238, 1, none⟩ = some (.int .i64 a0_1) := (blk_cell BK238.out 1).trans rfl; have hfz6_0 := blk_frozen BK238.out 0; have hfz6_1 := blk_frozen BK238.out 1) | ((with_reducible refine gate_callee (f := 53) rfl ?_); refine gC (some 5) Try.func53 #[.int .i64 a0_0, .int .i64 0, .int .i64 3000] ?_; (with_reducible refine (spec_l1In.calls a0_0 0 3000 true _ A2.out).mono ?_); rintro e w' ⟨rfl, ⟨nd, rfl⟩⟩; refine ⟨_, rfl, ?_⟩) | (go_at_call 53; (with_reducible refine (spec_l1In.calls a0_1 1 365 t240 _ A4.out).mono ?_); rintro e w' ⟨rfl, ⟨nd, rfl⟩⟩))
    go_ret
    exact ⟨by first | rfl | (simp [errW_none, errW_some] <;> rfl) | (simp [*, errW_none, errW_some] <;> rfl), by exact bT HB.out⟩
  · replace c3 := Bool.eq_false_iff.mpr c3
    subst c3
    have H1 : (some false) = some r := by first | (rw [if_neg (show ¬ (false = true) by decide)] at H; exact H) | rfl
    clear H
    have H := H1
    clear H1
    obtain rfl := Option.some.inj H
    go_enter Try.func51, Try.ntmps51
    go_wp2_with (first | ((with_reducible refine gate_dst (N := 1) rfl ?_); refine gX 1 #[.int .i64 a0_0, .int .i64 a0_1] 26 ?_; intro gb238 hg w7 hbox hb; have n0_ := am (below_step (bY HB.out) hb); have n1_ := am (hbox); have n2_ := am (gZ hg (bY HB.out)); have n3_ := am (gZ hg (bY HB.out)); clear HB; have HB := n0_; have BK238 := n1_; have GW238 := n2_; have GE238 := n3_; clear n0_ n1_ n2_ n3_; clear hb hbox hg; have hcz8_0 : w7.cell? ⟨gb238, 0, none⟩ = some (.int .i64 a0_0) := (blk_cell BK238.out 0).trans rfl; have hcz8_1 : w7.cell? ⟨gb238, 1, none⟩ = some (.int .i64 a0_1) := (blk_cell BK238.out 1).trans rfl; have hfz8_0 := blk_frozen BK238.out 0; have hfz8_1 := blk_frozen BK238.out 1) | ((with_reducible refine gate_callee (f := 53) rfl ?_); refine gC (some 5) Try.func53 #[.int .i64 a0_0, .int .i64 0, .int .i64 3000] ?_; (with_reducible refine (spec_l1In.calls a0_0 0 3000 false _ A2.out).mono ?_); rintro e w' ⟨rfl, ⟨nd, rfl⟩⟩; refine ⟨_, rfl, ?_⟩))
    go_ret
    exact ⟨by first | rfl | (simp [errW_none, errW_some] <;> rfl) | (simp [*, errW_none, errW_some] <;> rfl), by exact bT HB.out⟩

/-! ### spec_biBorn: function 56 -/
def spec_biBorn.f (a0_0 : Int) (a0_1 : Int) (a1_0 : Int) (a1_1 : Int) : Option (Bool) := (spec_biDate.f a0_0 a0_1).bind fun t243 => (if t243 = true then ((spec_biDate.f a1_0 a1_1).bind fun t244 => (if t244 = true then ((spec_biDays.f a1_0 a1_1).bind fun t245 => ((spec_biDays.f a0_0 a0_1).bind fun t246 => (some (decide (t245 ≥ t246))))) else (some false))) else (some false))
def spec_biBorn.T1 : Bool × List (List Nat × List Nat) := (true, [([], []), ([0], [0]), ([1, 1], [1]), ([2], [2]), ([3, 2, 2], [2, 3]), ([2, 4], [2, 4]), ([5, 4], [5]), ([6], [6]), ([7, 6, 6], [6, 7]), ([6], [6]), ([9, 8, 6], [6, 9]), ([8, 10, 6], [6, 8, 10]), ([6, 11], [6, 11]), ([12, 10, 0, 1, 2, 3, 4, 5, 6, 7, 8, 9, 10, 11, 12], [12])])
def spec_biBorn.B1 : List Nat := [0, 1, 3, 7, 15, 31, 63, 127, 255, 127, 1023, 2047, 4095, 8191]
theorem spec_biBorn.tab1 : rtab .any (opsOf Try.f56 1) = spec_biBorn.T1 := by kernel_rfl
theorem spec_biBorn.bits1 : waitsOk spec_biBorn.T1.2 spec_biBorn.B1 = true := by kernel_rfl
set_option maxHeartbeats 8000000 in
set_option maxRecDepth 100000 in
set_option maxRecDepth 100000 in
set_option maxHeartbeats 4000000 in
theorem spec_biBorn.calls (a0_0 : Int) (a0_1 : Int) (a1_0 : Int) (a1_1 : Int) (r : Bool) (w : World) (h : spec_biBorn.f a0_0 a0_1 a1_0 a1_1 = some r) :
    Calls Try.prog 56 #[.agg #[.int .i64 a0_0, .int .i64 a0_1], .agg #[.int .i64 a1_0, .int .i64 a1_1]] w fun e w' => e = .returned (.bool r) ∧ Below w.heap.size w w' := by
  have H := h
  clear h
  unfold spec_biBorn.f at H
  refine Sg.fn1 (m := 5) Try.func56 rfl rfl rfl rfl (fun Q hQp hQ => ?_)
  refine Sg.sq ?_
  refine Sg.rg ?_
  refine Sg.bx (cs := #[.int .i64 a0_0, .int .i64 a0_1]) (t0 := 26) (hs := Sg.rs rfl rfl) (hx := by first | (go_simp; done) | (go_simp; rfl)) (h := fun g1 w2 e3 x4 b5 => ⟨_, (Sg.pn rfl), ?_⟩)
  have l6 : w.heap.size ≤ g1 := Nat.le_of_eq e3.symm
  refine Sg.bx (cs := #[.int .i64 a1_0, .int .i64 a1_1]) (t0 := 26) (hs := Sg.rs rfl rfl) (hx := by first | (go_simp; done) | (go_simp; rfl)) (h := fun g7 w8 e9 x10 b11 => ⟨_, (Sg.pn rfl), ?_⟩)
  have l12 : w.heap.size ≤ g7 := by rw [e9]; exact b5.size
  have n14 : g1 ≠ g7 := by rw [e9]; exact Nat.ne_of_lt (blk_lt x4)
  have x13 := blk_below x4 b11
  have q15 := below_step b5 b11
  refine Sg.asg (v := .bool false) (h := ?_)
  first | refine Sg.nl ?_ | refine Sg.nl1 ?_
  refine Sg.sq ?_
  refine Sg.da (k := 14) (h := fun w16 b17 => ?_)
  refine Sg.dt (i := 0) (hb := b17) (hy := fun w_ b_ => (Sg.Xldr (hu := Try.underlying26) (hd := rfl) (hi := by kernel_rfl) (hg := blk_below x13 b_ ))) (h := ?_)
  refine Sg.dc (i := 1) (args := #[.agg #[.int .i64 a0_0, .int .i64 a0_1]]) (hop := rfl) (hf := Try.func51) (hargs := Sg.a1 (Sg.rs rfl rfl)) (h := ?_)
  obtain ⟨r18, a19, H⟩ := Option.bind_eq_some_iff.1 H
  try dsimp only at H
  refine (spec_biDate.calls a0_0 a0_1 r18 _ a19).mono ?_
  rintro _ w20 ⟨rfl, b21⟩
  refine ⟨_, _, rfl, (Sg.ps rfl), (below_step b17 b21), ?_⟩
  refine Sg.dv (i := 2) (hy := fun _ => (Sg.Xmv (v := .bool r18))) (h := ?_)
  cases r18
  ·skip
   rw [if_neg (show ¬ (false = true) by decide)] at H
   refine Sg.doff (i := 3) (hg := rfl) (hw := Sg.yl (d := 7) rfl rfl rfl) (hb := rfl) (h := ?_)
   refine Sg.doff (i := 4) (hg := rfl) (hw := Sg.yl (d := 7) rfl rfl rfl) (hb := rfl) (h := ?_)
   refine Sg.dv (i := 5) (hy := fun _ => (Sg.Xpk (v := .bool false))) (h := ?_)
   refine Sg.dv (i := 6) (hy := fun _ => (Sg.Xmv (v := .bool false))) (h := ?_)
   refine Sg.doff (i := 7) (hg := rfl) (hw := Sg.yl (d := 11) rfl rfl rfl) (hb := rfl) (h := ?_)
   refine Sg.doff (i := 9) (hg := rfl) (hw := Sg.yl (d := 11) rfl rfl rfl) (hb := rfl) (h := ?_)
   refine Sg.doff (i := 8) (hg := rfl) (hw := Sg.yl (d := 11) rfl rfl rfl) (hb := rfl) (h := ?_)
   refine Sg.doff (i := 10) (hg := rfl) (hw := Sg.yl (d := 11) rfl rfl rfl) (hb := rfl) (h := ?_)
   refine Sg.doff (i := 11) (hg := rfl) (hw := Sg.yl (d := 11) rfl rfl rfl) (hb := rfl) (h := ?_)
   refine Sg.dv (i := 12) (hy := fun _ => (Sg.Xpk (v := .bool false))) (h := ?_)
   refine Sg.dv (i := 13) (hy := fun _ => (Sg.Xasg (v := .bool false))) (h := ?_)
   first | refine Sg.dend (h := ?_) | refine Sg.dend1 (h := ?_)
   first | (simp only [Option.some.injEq, Prod.mk.injEq] at H) | skip
   obtain rfl := H
   first | refine Sg.rt0 ?_ | refine Sg.rt ?_
   exact hQ _ _ _ _ rfl ⟨rfl, (below_step (below_step q15 b17) b21)⟩
  ·skip
   rw [if_pos (show true = true by decide)] at H
   refine Sg.dt (i := 3) (hb := below_step b17 b21) (hy := fun w_ b_ => (Sg.Xldr (hu := Try.underlying26) (hd := rfl) (hi := by kernel_rfl) (hg := blk_below x10 b_ ))) (hw := Sg.wy (d := 7) rfl rfl rfl) (h := ?_)
   refine Sg.dc (i := 4) (args := #[.agg #[.int .i64 a1_0, .int .i64 a1_1]]) (hop := rfl) (hf := Try.func51) (hw := Sg.wy (d := 7) rfl rfl rfl) (hargs := Sg.a1 (Sg.rs rfl rfl)) (h := ?_)
   obtain ⟨r22, a23, H⟩ := Option.bind_eq_some_iff.1 H
   try dsimp only at H
   refine (spec_biDate.calls a1_0 a1_1 r22 _ a23).mono ?_
   rintro _ w24 ⟨rfl, b25⟩
   refine ⟨_, _, rfl, (Sg.ps rfl), (below_step (below_step b17 b21) b25), ?_⟩
   refine Sg.dv (i := 5) (hy := fun _ => (Sg.Xpk (v := .bool r22))) (h := ?_)
   refine Sg.dv (i := 6) (hy := fun _ => (Sg.Xmv (v := .bool r22))) (h := ?_)
   cases r22
   ·skip
    rw [if_neg (show ¬ (false = true) by decide)] at H
    refine Sg.doff (i := 7) (hg := rfl) (hw := Sg.yl (d := 11) rfl rfl rfl) (hb := rfl) (h := ?_)
    refine Sg.doff (i := 9) (hg := rfl) (hw := Sg.yl (d := 11) rfl rfl rfl) (hb := rfl) (h := ?_)
    refine Sg.doff (i := 8) (hg := rfl) (hw := Sg.yl (d := 11) rfl rfl rfl) (hb := rfl) (h := ?_)
    refine Sg.doff (i := 10) (hg := rfl) (hw := Sg.yl (d := 11) rfl rfl rfl) (hb := rfl) (h := ?_)
    refine Sg.doff (i := 11) (hg := rfl) (hw := Sg.yl (d := 11) rfl rfl rfl) (hb := rfl) (h := ?_)
    refine Sg.dv (i := 12) (hy := fun _ => (Sg.Xpk (v := .bool false))) (h := ?_)
    refine Sg.dv (i := 13) (hy := fun _ => (Sg.Xasg (v := .bool false))) (h := ?_)
    first | refine Sg.dend (h := ?_) | refine Sg.dend1 (h := ?_)
    first | (simp only [Option.some.injEq, Prod.mk.injEq] at H) | skip
    obtain rfl := H
    first | refine Sg.rt0 ?_ | refine Sg.rt ?_
    exact hQ _ _ _ _ rfl ⟨rfl, (below_step (below_step (below_step q15 b17) b21) b25)⟩
   ·skip
    rw [if_pos (show true = true by decide)] at H
    refine Sg.dt (i := 7) (hb := below_step (below_step b17 b21) b25) (hy := fun w_ b_ => (Sg.Xldr (hu := Try.underlying26) (hd := rfl) (hi := by kernel_rfl) (hg := blk_below x10 b_ ))) (hw := Sg.wy (d := 11) rfl rfl rfl) (h := ?_)
    refine Sg.dt (i := 9) (hb := below_step (below_step b17 b21) b25) (hy := fun w_ b_ => (Sg.Xldr (hu := Try.underlying26) (hd := rfl) (hi := by kernel_rfl) (hg := blk_below x13 b_ ))) (hw := Sg.wy (d := 11) rfl rfl rfl) (h := ?_)
    refine Sg.dc (i := 8) (args := #[.agg #[.int .i64 a1_0, .int .i64 a1_1]]) (hop := rfl) (hf := Try.func41) (hw := Sg.wy (d := 11) rfl rfl rfl) (hargs := Sg.a1 (Sg.rs rfl rfl)) (h := ?_)
    obtain ⟨r26, a27, H⟩ := Option.bind_eq_some_iff.1 H
    try dsimp only at H
    refine (spec_biDays.calls a1_0 a1_1 r26 _ a27).mono ?_
    rintro _ w28 ⟨rfl, b29⟩
    refine ⟨_, _, rfl, (Sg.ps rfl), (below_step (below_step (below_step b17 b21) b25) b29), ?_⟩
    refine Sg.dc (i := 10) (args := #[.agg #[.int .i64 a0_0, .int .i64 a0_1]]) (hop := rfl) (hf := Try.func41) (hw := Sg.wy (d := 11) rfl rfl rfl) (hargs := Sg.a1 (Sg.rs rfl rfl)) (h := ?_)
    obtain ⟨r30, a31, H⟩ := Option.bind_eq_some_iff.1 H
    try dsimp only at H
    refine (spec_biDays.calls a0_0 a0_1 r30 _ a31).mono ?_
    rintro _ w32 ⟨rfl, b33⟩
    refine ⟨_, _, rfl, (Sg.ps rfl), (below_step (below_step (below_step (below_step b17 b21) b25) b29) b33), ?_⟩
    refine Sg.dv (i := 11) (hy := fun _ => (Sg.Xbin (v3 := .bool (decide (r26 ≥ r30))) (hv := Sg.Igeq (by simp)))) (hw := Sg.wy (d := 11) rfl rfl rfl) (h := ?_)
    refine Sg.dv (i := 12) (hy := fun _ => (Sg.Xpk (v := .bool (decide (r26 ≥ r30))))) (h := ?_)
    refine Sg.dv (i := 13) (hy := fun _ => (Sg.Xasg (v := .bool (decide (r26 ≥ r30))))) (h := ?_)
    first | refine Sg.dend (h := ?_) | refine Sg.dend1 (h := ?_)
    first | (simp only [Option.some.injEq, Prod.mk.injEq] at H) | skip
    obtain rfl := H
    first | refine Sg.rt0 ?_ | refine Sg.rt ?_
    exact hQ _ _ _ _ rfl ⟨rfl, (below_step (below_step (below_step (below_step (below_step q15 b17) b21) b25) b29) b33)⟩

/-! ### spec_biGood: function 59 -/
def spec_biGood.l0 : Nat → List (S26) → Int → Int → Option (Bool)
  | 0, _, _, _ => none
  | k + 1, x9, x10, x11 => if x11 < x10 then (if 0 ≤ x11 then (if x11 < (x9.length : Int) then ((spec_biDate.f ((rd_T26 x9 x11).f0) ((rd_T26 x9 x11).f1)).bind fun t250 => (if t250 = true then (spec_biGood.l0 k x9 x10 (wrap64 (x11 + 1))) else (some false))) else (none)) else (none)) else (some true)
def spec_biGood.f (k : Nat) (l0 : List (S26)) : Option (Bool) := (spec_l1In.f (l0.length : Int) 1 8).bind fun t247 => (if t247 = true then (spec_biGood.l0 k l0 (l0.length : Int) 0) else (some false))
theorem spec_biGood.mono_l : ∀ k, (∀ y0 y1 y2, LeO (spec_biGood.l0 k y0 y1 y2) (spec_biGood.l0 (k + 1) y0 y1 y2))
  | 0 => fun _ _ _ r h => by simp [spec_biGood.l0] at h
  | k + 1 => by
    have ih0 := spec_biGood.mono_l k
    · intro y0 y1 y2
      unfold spec_biGood.l0
      repeat' first
      | (with_reducible exact ih0 _ _ _)
      | (with_reducible exact LeO.refl _)
      | (with_reducible exact LeO.none _)
      | (with_reducible refine LeO.ite ?_ ?_)
      | (with_reducible refine LeO.bind ?_ (fun _ => ?_))
      | exact ih0 _ _ _
      | exact LeO.none _
      | refine LeO.ite ?_ ?_
      | refine LeO.bind ?_ (fun _ => ?_)
theorem spec_biGood.mono : ∀ a0 k, LeO (spec_biGood.f k a0) (spec_biGood.f (k + 1) a0) := by
  intro a0 k
  have ih0 := spec_biGood.mono_l k
  unfold spec_biGood.f
  repeat' first
      | (with_reducible exact ih0 _ _ _)
      | (with_reducible exact LeO.refl _)
      | (with_reducible exact LeO.none _)
      | (with_reducible refine LeO.ite ?_ ?_)
      | (with_reducible refine LeO.bind ?_ (fun _ => ?_))
      | exact ih0 _ _ _
      | exact LeO.none _
      | refine LeO.ite ?_ ?_
      | refine LeO.bind ?_ (fun _ => ?_)
set_option maxHeartbeats 8000000 in
set_option maxRecDepth 100000 in
theorem spec_biGood.calls (k : Nat) (A0 : Option Addr) (c0 : Nat) (l0 : List (S26)) (r : Bool) (w : World) (hr0 : Kd.C k26 w A0 l0.length l0) (hc0 : l0.length ≤ c0) (h : spec_biGood.f k l0 = some r) :
    Calls Try.prog 59 #[.slice A0 l0.length c0] w fun e w' => e = .returned (.bool r) ∧ Below w.heap.size w w' := by
  have hu26 := Try.underlying26
  have HR0 := am hr0
  have HC0 := am hc0
  clear hr0 hc0
  have HB := am (Below.refl w.heap.size w)
  have H : ((spec_l1In.f (l0.length : Int) 1 8).bind fun t247 => (if t247 = true then (spec_biGood.l0 k l0 (l0.length : Int) 0) else (some false))) = some r := h
  clear h
  replace H := Option.bind_eq_some_iff.mp H
  obtain ⟨t247, A20, H⟩ := H
  replace H : (if t247 = true then (spec_biGood.l0 k l0 (l0.length : Int) 0) else (some false)) = some r := H
  have A2 := am A20
  clear A20
  by_cases c3 : t247 = true
  · subst c3
    have H1 : (spec_biGood.l0 k l0 (l0.length : Int) 0) = some r := by first | (rw [if_pos rfl] at H; exact H) | rfl
    clear H
    have H := H1
    clear H1
    have H' := am H
    clear H
    go_enter Try.func59, Try.ntmps59
    go_wp2_with (first | ((with_reducible refine gate_callee (f := 53) rfl ?_); refine gC (some 7) Try.func53 #[.int .i64 (l0.length : Int), .int .i64 1, .int .i64 8] ?_; (with_reducible refine (spec_l1In.calls (l0.length : Int) 1 8 true _ A2.out).mono ?_); rintro e w' ⟨rfl, ⟨nd, rfl⟩⟩; refine ⟨_, rfl, ?_⟩))
    go_loopg [11] k (fun kq v11 w' => ∃ (x11_1 : Int), v11 = .int .i64 x11_1 ∧ Aside0 (spec_biGood.l0 kq l0 (l0.length : Int) x11_1 = some r) ∧ Aside0 (kq ≤ k) ∧ Aside0 (Below w.heap.size w w'))
    case atStart => exact ⟨(0), (by first | rfl | (simp; done) | (simp [*]; done)), H', ⟨Nat.le_refl _⟩, ⟨by exact bY HB.out⟩⟩
    case round =>
      clear H'
      try clear p2
      try clear c3
      obtain ⟨x11_1, rfl, HA, HK1, HB⟩ := hrel
      cases gk with
      | zero => exact absurd HA.out (by simp [spec_biGood.l0])
      | succ k1 =>
        have H := HA.out
        clear HA
        simp only [spec_biGood.l0] at H
        by_cases c4 : x11_1 < (l0.length : Int)
        · rw [if_pos c4] at H
          have c4b0 : decide (x11_1 < (l0.length : Int)) = true := decide_eq_true c4
          clear c4
          by_cases c5 : 0 ≤ x11_1
          · rw [if_pos c5] at H
            have c5b0 : decide (0 ≤ x11_1) = true := decide_eq_true c5
            clear c5
            by_cases c6 : x11_1 < (l0.length : Int)
            · rw [if_pos c6] at H
              have c6b0 : decide (x11_1 < (l0.length : Int)) = true := decide_eq_true c6
              clear c6
              replace H := Option.bind_eq_some_iff.mp H
              obtain ⟨t250, A70, H⟩ := H
              replace H : (if t250 = true then (spec_biGood.l0 k1 l0 (l0.length : Int) (wrap64 (x11_1 + 1))) else (some false)) = some r := H
              have A7 := am A70
              clear A70
              by_cases c8 : t250 = true
              · subst c8
                have H1 : (spec_biGood.l0 k1 l0 (l0.length : Int) (wrap64 (x11_1 + 1))) = some r := by first | (rw [if_pos rfl] at H; exact H) | rfl
                clear H
                have H := H1
                clear H1
                have H' := am H
                clear H
                have p248 : 0 ≤ (x11_1 : Int) := of_decide_eq_true (by first | (with_reducible assumption) | assumption)
                have q248 : x11_1 < (l0.length : Int) := of_decide_eq_true (by first | (with_reducible assumption) | assumption)
                obtain ⟨ad248, e248, hx248_0, hx248_1⟩ := at_T26 HR0.out x11_1 p248 q248
                cases e248
                replace hx248_0 := (HB.out.cell (World.block_lt_of_cell? w _ hx248_0)).trans hx248_0
                replace hx248_1 := (HB.out.cell (World.block_lt_of_cell? w _ hx248_1)).trans hx248_1
                replace p248 := eq_true p248
                replace q248 := eq_true q248
                go_wp2_with (first | ((with_reducible refine gate_dst (N := 4) rfl ?_); refine gX 4 #[.int .i64 0, .int .i64 0] 26 ?_; intro gb249 hg w9 hbox hb; have n0_ := am (below_step (bY HB.out) hb); have n1_ := am (hbox); have n2_ := am (gZ hg (bY HB.out)); have n3_ := am (gZ hg (bY HB.out)); clear HB; have HB := n0_; have BK249 := n1_; have GW249 := n2_; have GE249 := n3_; clear n0_ n1_ n2_ n3_; clear hb hbox hg; have hcz10_0 : w9.cell? ⟨gb249, 0, none⟩ = some (.int .i64 0) := (blk_cell BK249.out 0).trans rfl; have hcz10_1 : w9.cell? ⟨gb249, 1, none⟩ = some (.int .i64 0) := (blk_cell BK249.out 1).trans rfl; have hfz10_0 := blk_frozen BK249.out 0; have hfz10_1 := blk_frozen BK249.out 1) | ((with_reducible refine gate_callee (f := 51) rfl ?_); refine gC (some 16) Try.func51 #[.agg #[.int .i64 ((rd_T26 l0 x11_1).f0), .int .i64 ((rd_T26 l0 x11_1).f1)]] ?_; (with_reducible refine (spec_biDate.calls ((rd_T26 l0 x11_1).f0) ((rd_T26 l0 x11_1).f1) true _ A7.out).mono ?_); rintro e w11 ⟨rfl, hb⟩; refine ⟨_, rfl, ?_⟩; have n0_ := am (blk_below (g := gb249) (o := .cells #[.int .i64 ((rd_T26 l0 x11_1).f0), .int .i64 ((rd_T26 l0 x11_1).f1)] 26 (0, 0)) (by (with_reducible repeat (first | refine blk_drewN ?_ _ | refine blk_drew ?_ | refine blk_alloc ?_ _)); refine blk_put (cs := #[.int .i64 ((rd_T26 l0 x11_1).f0), .int .i64 0]) ?_ 1 _ rfl; (with_reducible repeat (first | refine blk_drewN ?_ _ | refine blk_drew ?_ | refine blk_alloc ?_ _)); refine blk_put (cs := #[.int .i64 0, .int .i64 0]) ?_ 0 _ rfl; (with_reducible repeat (first | refine blk_drewN ?_ _ | refine blk_drew ?_ | refine blk_alloc ?_ _)); exact BK249.out) hb); have n1_ := am (below_step (bT HB.out) hb); clear BK249; clear HB; have BK249 := n0_; have HB := n1_; clear n0_ n1_; (try clear hb); (try clear hb2); (try clear hk); (try clear hi)))
                go_roundg k1
                case measure => have := HK1.out; omega
                case rel => exact ⟨(wrap64 (x11_1 + 1)), (by first | rfl | (simp; done) | (simp [*]; done)), H', ⟨by have := HK1.out; omega⟩, ⟨by exact bT HB.out⟩⟩
              · replace c8 := Bool.eq_false_iff.mpr c8
                subst c8
                have H1 : (some false) = some r := by first | (rw [if_neg (show ¬ (false = true) by decide)] at H; exact H) | rfl
                clear H
                have H := H1
                clear H1
                obtain rfl := Option.some.inj H
                have p248 : 0 ≤ (x11_1 : Int) := of_decide_eq_true (by first | (with_reducible assumption) | assumption)
                have q248 : x11_1 < (l0.length : Int) := of_decide_eq_true (by first | (with_reducible assumption) | assumption)
                obtain ⟨ad248, e248, hx248_0, hx248_1⟩ := at_T26 HR0.out x11_1 p248 q248
                cases e248
                replace hx248_0 := (HB.out.cell (World.block_lt_of_cell? w _ hx248_0)).trans hx248_0
                replace hx248_1 := (HB.out.cell (World.block_lt_of_cell? w _ hx248_1)).trans hx248_1
                replace p248 := eq_true p248
                replace q248 := eq_true q248
                go_wp2_with (first | ((with_reducible refine gate_dst (N := 4) rfl ?_); refine gX 4 #[.int .i64 0, .int .i64 0] 26 ?_; intro gb249 hg w12 hbox hb; have n0_ := am (below_step (bY HB.out) hb); have n1_ := am (hbox); have n2_ := am (gZ hg (bY HB.out)); have n3_ := am (gZ hg (bY HB.out)); clear HB; have HB := n0_; have BK249 := n1_; have GW249 := n2_; have GE249 := n3_; clear n0_ n1_ n2_ n3_; clear hb hbox hg; have hcz13_0 : w12.cell? ⟨gb249, 0, none⟩ = some (.int .i64 0) := (blk_cell BK249.out 0).trans rfl; have hcz13_1 : w12.cell? ⟨gb249, 1, none⟩ = some (.int .i64 0) := (blk_cell BK249.out 1).trans rfl; have hfz13_0 := blk_frozen BK249.out 0; have hfz13_1 := blk_frozen BK249.out 1) | ((with_reducible refine gate_callee (f := 51) rfl ?_); refine gC (some 16) Try.func51 #[.agg #[.int .i64 ((rd_T26 l0 x11_1).f0), .int .i64 ((rd_T26 l0 x11_1).f1)]] ?_; (with_reducible refine (spec_biDate.calls ((rd_T26 l0 x11_1).f0) ((rd_T26 l0 x11_1).f1) false _ A7.out).mono ?_); rintro e w14 ⟨rfl, hb⟩; refine ⟨_, rfl, ?_⟩; have n0_ := am (blk_below (g := gb249) (o := .cells #[.int .i64 ((rd_T26 l0 x11_1).f0), .int .i64 ((rd_T26 l0 x11_1).f1)] 26 (0, 0)) (by (with_reducible repeat (first | refine blk_drewN ?_ _ | refine blk_drew ?_ | refine blk_alloc ?_ _)); refine blk_put (cs := #[.int .i64 ((rd_T26 l0 x11_1).f0), .int .i64 0]) ?_ 1 _ rfl; (with_reducible repeat (first | refine blk_drewN ?_ _ | refine blk_drew ?_ | refine blk_alloc ?_ _)); refine blk_put (cs := #[.int .i64 0, .int .i64 0]) ?_ 0 _ rfl; (with_reducible repeat (first | refine blk_drewN ?_ _ | refine blk_drew ?_ | refine blk_alloc ?_ _)); exact BK249.out) hb); have n1_ := am (below_step (bT HB.out) hb); clear BK249; clear HB; have BK249 := n0_; have HB := n1_; clear n0_ n1_; (try clear hb); (try clear hb2); (try clear hk); (try clear hi)))
                go_ret
                exact ⟨by first | rfl | (simp [errW_none, errW_some] <;> rfl) | (simp [*, errW_none, errW_some] <;> rfl), by exact bT HB.out⟩
            · rw [if_neg c6] at H
              exact absurd H (by simp)
          · rw [if_neg c5] at H
            exact absurd H (by simp)
        · rw [if_neg c4] at H
          have c4b0 : decide (x11_1 < (l0.length : Int)) = false := decide_eq_false c4
          clear c4
          obtain rfl := Option.some.inj H
          go_wp2
          go_ret
          exact ⟨by first | rfl | (simp [errW_none, errW_some] <;> rfl) | (simp [*, errW_none, errW_some] <;> rfl), by exact bY HB.out⟩
  · replace c3 := Bool.eq_false_iff.mpr c3
    subst c3
    have H1 : (some false) = some r := by first | (rw [if_neg (show ¬ (false = true) by decide)] at H; exact H) | rfl
    clear H
    have H := H1
    clear H1
    obtain rfl := Option.some.inj H
    go_enter Try.func59, Try.ntmps59
    go_wp2_with (first | ((with_reducible refine gate_callee (f := 53) rfl ?_); refine gC (some 7) Try.func53 #[.int .i64 (l0.length : Int), .int .i64 1, .int .i64 8] ?_; (with_reducible refine (spec_l1In.calls (l0.length : Int) 1 8 false _ A2.out).mono ?_); rintro e w' ⟨rfl, ⟨nd, rfl⟩⟩; refine ⟨_, rfl, ?_⟩))
    go_ret
    exact ⟨by first | rfl | (simp [errW_none, errW_some] <;> rfl) | (simp [*, errW_none, errW_some] <;> rfl), by exact bY HB.out⟩

end Go.Proofs.Ytaabfjfdalcceaa.E
