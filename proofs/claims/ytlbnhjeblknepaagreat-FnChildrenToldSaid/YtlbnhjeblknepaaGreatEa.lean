import Derived.Test.YtlbnhjeblknepaaGreatE0
import Derived.Test.YtlbnhjeblknepaaGreatE1
import Derived.Test.YtlbnhjeblknepaaGreatE2
import Derived.Test.YtlbnhjeblknepaaGreatWm
-- WRITTEN by xprint.py, a program of this session that drives the kit's printer: out of the translation. Lean checks it.
namespace Go.Proofs.YtlbnhjeblknepaaGreat.E
open Go.RowKit Go.Proofs.YtlbnhjeblknepaaGreatW.PrintWords Go.Proofs.YtlbnhjeblknepaaGreatW.PrintLast Go.Proofs.YtlbnhjeblknepaaGreatW.PrintMore
attribute [local go_sem] max2_int min2_int max_two min_two max_three min_three max_four min_four   -- for this text's walks alone
set_option linter.unusedVariables false
set_option linter.unusedSimpArgs false

-- OURS, BY HAND
/-! ### spec_DrawSetsOfProduct: function 42 -/
-- func spec.DrawSetsOfProduct
-- ext rounds=1 making=1
-- needs (*spec.l1Cur).next
-- needs (*spec.l1Cur).pick
-- needs (*spec.l1Cur).one
-- needs (*spec.l1Cur).among
-- needs (*spec.l1Cur).product
def spec_DrawSetsOfProduct.f (k : Nat) (l0 : List Int) : Option (Int × Int) := (spec_l1Cur_product.f k l0 0 0).bind fun a => some (a.1, a.2.1)
theorem spec_DrawSetsOfProduct.mono : ∀ a0 k, LeO (spec_DrawSetsOfProduct.f k a0) (spec_DrawSetsOfProduct.f (k + 1) a0) := by
  intro a0 k
  unfold spec_DrawSetsOfProduct.f
  exact LeO.bind (spec_l1Cur_product.mono _ _ _ _) (fun _ => LeO.refl _)
set_option maxHeartbeats 8000000 in
set_option maxRecDepth 100000 in
theorem spec_DrawSetsOfProduct.calls (k : Nat) (A0 : Option Addr) (c0 : Nat) (l0 : List Int) (r1 : Int) (r2 : Int) (w : World) (hr0 : Kd.C (Kd.int .u8) w A0 l0.length l0) (hc0 : l0.length ≤ c0) (h : spec_DrawSetsOfProduct.f k l0 = some (r1, r2)) :
    Calls Tryz.prog 42 #[.slice A0 l0.length c0] w fun e w' => e = .returned (.tuple #[.int .i64 r1, .int .i64 r2]) ∧ Below w.heap.size w w' := by
  have HB := Aside0.mk (Below.refl w.heap.size w)
  have HR0 := Aside0.mk hr0
  clear hr0 hc0
  unfold spec_DrawSetsOfProduct.f at h
  obtain ⟨⟨a1, a2, a3, a4⟩, hA1, h⟩ := Option.bind_eq_some_iff.1 h
  have HA1 := Aside0.mk hA1
  clear hA1
  simp only [Option.some.injEq, Prod.mk.injEq] at h
  obtain ⟨rfl, rfl⟩ := h
  go_enter Tryz.func42, Tryz.ntmps42
  go_wp2_with (first | ((with_reducible refine gate_dst (N := 7) rfl ?_); refine box_event ?hg (N := 7) ?hd (cs := #[.slice A0 l0.length c0, .int .i64 0, .int .u64 0]) (t := 63) ?hr ?_; (case hd => rfl); (case hg => rfl); (case hr => first | (go_simp; done) | (go_simp; rfl)); intro gq hg w1 hbox hb; have HG := Aside0.mk (show w.heap.size ≤ gq by rw [hg]; exact below_size HB.out); have HI := Aside0.mk (show IsS63 w _ gq l0 0 0 from ⟨A0, c0, hbox, HG.out, HR0.out⟩); have HB' := Aside0.mk (below_step HB.out hb); clear HB; have HB := HB'; clear HB' hb hbox hg HG) | ((with_reducible refine gate_callee (f := 62) rfl ?_); refine goesL_ (some 9) rfl rfl Tryz.func62 (by kernel_rfl) rfl #[.pointer (some ⟨gq, 0, none⟩)] rfl (by (try simp only [List.map_toArray, List.map_cons, List.map_nil]); first | done | rfl) ?_; (with_reducible refine (spec_l1Cur_product.calls k gq l0 0 0 a1 a2 a3 a4 w _ ?hI ?hB HA1.out).mono ?_); (case hI => exact HI.out); (case hB => exact HB.out); rintro e w2 ⟨rfl, hI, hb, hk⟩; refine ⟨_, rfl, ?_⟩; clear HI HB; have HI := Aside0.mk hI; have HB := Aside0.mk hb; clear hI hb hk))
  first | go_ret2 | skip
  exact ⟨rfl, HB.out⟩

end Go.Proofs.YtlbnhjeblknepaaGreat.E
-- WRITTEN by xprint.py, a program of this session that drives the kit's printer: out of the translation. Lean checks it.
namespace Go.Proofs.YtlbnhjeblknepaaGreat.E
open Go.RowKit Go.Proofs.YtlbnhjeblknepaaGreatW.PrintWords Go.Proofs.YtlbnhjeblknepaaGreatW.PrintLast Go.Proofs.YtlbnhjeblknepaaGreatW.PrintMore
attribute [local go_sem] max2_int min2_int max_two min_two max_three min_three max_four min_four   -- for this text's walks alone
set_option linter.unusedVariables false
set_option linter.unusedSimpArgs false

/-! ### spec_DrawToldByOldest: function 5 -/
def spec_DrawToldByOldest.f (k : Nat) (l0 : List Int) : Option (Int × Int) := (spec_DrawSetsOfProduct.f k l0).bind fun bt158 => (some (bt158.1, bt158.2))
theorem spec_DrawToldByOldest.mono : ∀ a0 k, LeO (spec_DrawToldByOldest.f k a0) (spec_DrawToldByOldest.f (k + 1) a0) := by
  intro a0 k
  unfold spec_DrawToldByOldest.f
  repeat' first
      | (with_reducible exact spec_DrawSetsOfProduct.mono _ _)
      | (with_reducible exact LeO.refl _)
      | (with_reducible exact LeO.none _)
      | (with_reducible refine LeO.ite ?_ ?_)
      | (with_reducible refine LeO.bind ?_ (fun _ => ?_))
      | exact spec_DrawSetsOfProduct.mono _ _
      | exact LeO.none _
      | refine LeO.ite ?_ ?_
      | refine LeO.bind ?_ (fun _ => ?_)
set_option maxHeartbeats 8000000 in
set_option maxRecDepth 100000 in
theorem spec_DrawToldByOldest.calls (k : Nat) (A0 : Option Addr) (c0 : Nat) (l0 : List Int) (r1 : Int) (r2 : Int) (w : World) (hr0 : Kd.C (Kd.int .u8) w A0 l0.length l0) (hc0 : l0.length ≤ c0) (h : spec_DrawToldByOldest.f k l0 = some (r1, r2)) :
    Calls Tryz.prog 5 #[.slice A0 l0.length c0] w fun e w' => e = .returned (.tuple #[.int .i64 r1, .int .i64 r2]) ∧ Below w.heap.size w w' := by
  have HR0 := Aside0.mk hr0
  have HC0 := Aside0.mk hc0
  clear hr0 hc0
  have HB := Aside0.mk (Below.refl w.heap.size w)
  have H : ((spec_DrawSetsOfProduct.f k l0).bind fun bt158 => (some (bt158.1, bt158.2))) = some (r1, r2) := h
  clear h
  replace H := Option.bind_eq_some_iff.mp H
  obtain ⟨⟨t158, t159⟩, A20, H⟩ := H
  replace H : (some (t158, t159)) = some (r1, r2) := H
  have A2 := Aside0.mk A20
  clear A20
  simp only [Option.some.injEq, Prod.mk.injEq] at H
  obtain ⟨rfl, rfl⟩ := H
  go_enter Tryz.func5, Tryz.ntmps5
  go_wp2_with (first | ((with_reducible refine gate_callee (f := 42) rfl ?_); refine goesL_ (some 5) rfl rfl Tryz.func42 (by kernel_rfl) rfl #[.slice A0 l0.length c0] rfl (by (try simp only [List.map_toArray, List.map_cons, List.map_nil]); first | done | rfl | (simp only [List.length_drop, List.length_take]; rfl)) ?_; (with_reducible refine (spec_DrawSetsOfProduct.calls k _ _ l0 t158 t159 _ ?side1 ?side2 A2.out).mono ?_); (case side1 => repeat (first | exact HR0.out | (with_reducible refine Kd.C_alloc ?_ _) | (with_reducible refine Kd.C_drewN ?_ _) | (with_reducible refine Kd.C_drew ?_))); (case side2 => exact HC0.out); rintro e w3 ⟨rfl, hb⟩; refine ⟨_, rfl, ?_⟩; have n0_ := Aside0.mk (below_step (by repeat (first | (with_reducible first | exact HB.out | apply below_alloc | apply pw_below_drewN | apply below_drew1) | exact HB.out)) hb); clear HB; have HB := n0_; clear n0_; (try clear hb); (try clear hb2); (try clear hk); (try clear hi)))
  go_ret2
  exact ⟨by first | rfl | (simp [errW_none, errW_some] <;> rfl) | (simp [*, errW_none, errW_some] <;> rfl), by repeat (first | (with_reducible first | exact HB.out | apply below_alloc | apply pw_below_drewN | apply below_drew1) | exact HB.out)⟩

/-! ### impl_between: function 84 -/
def impl_between.f (a0 : Int) (a1 : Int) (a2 : Int) : Option (Bool) := if a0 ≥ a1 then (some (decide (a0 ≤ a2))) else (some false)
set_option maxHeartbeats 8000000 in
set_option maxRecDepth 100000 in
theorem impl_between.calls (a0 : Int) (a1 : Int) (a2 : Int) (r : Bool) (w : World) (h : impl_between.f a0 a1 a2 = some r) :
    Calls Tryz.prog 84 #[.int .i64 a0, .int .i64 a1, .int .i64 a2] w fun e w' => e = .returned (.bool r) ∧ Drawn0 w w' := by
  have H : (if a0 ≥ a1 then (some (decide (a0 ≤ a2))) else (some false)) = some r := h
  clear h
  by_cases c4 : a0 ≥ a1
  · rw [if_pos c4] at H
    have c4b0 : decide (a1 ≤ a0) = true := decide_eq_true c4
    clear c4
    obtain rfl := Option.some.inj H
    go_enter Tryz.func84, Tryz.ntmps84
    go_wp2
    go_ret
    exact ⟨by first | rfl | (simp; done) | (simp [*]; done), by repeat (first | exact Drawn0.refl _ | apply Drawn0.step)⟩
  · rw [if_neg c4] at H
    have c4b0 : decide (a1 ≤ a0) = false := decide_eq_false c4
    clear c4
    obtain rfl := Option.some.inj H
    go_enter Tryz.func84, Tryz.ntmps84
    go_wp2
    go_ret
    exact ⟨by first | rfl | (simp; done) | (simp [*]; done), by repeat (first | exact Drawn0.refl _ | apply Drawn0.step)⟩

/-! ### impl_isProduct: function 50 -/
def impl_isProduct.f (a0 : Int) : Option (Bool) := (impl_between.f a0 1 160000).bind fun t160 => (some t160)
set_option maxHeartbeats 8000000 in
set_option maxRecDepth 100000 in
theorem impl_isProduct.calls (a0 : Int) (r : Bool) (w : World) (h : impl_isProduct.f a0 = some r) :
    Calls Tryz.prog 50 #[.int .i64 a0] w fun e w' => e = .returned (.bool r) ∧ Drawn0 w w' := by
  have H : ((impl_between.f a0 1 160000).bind fun t160 => (some t160)) = some r := h
  clear h
  replace H := Option.bind_eq_some_iff.mp H
  obtain ⟨t160, A20, H⟩ := H
  replace H : (some t160) = some r := H
  have A2 := Aside0.mk A20
  clear A20
  obtain rfl := Option.some.inj H
  go_enter Tryz.func50, Tryz.ntmps50
  go_wp2_with (first | ((with_reducible refine gate_callee (f := 84) rfl ?_); refine goesL_ (some 4) rfl rfl Tryz.func84 (by kernel_rfl) rfl #[.int .i64 a0, .int .i64 1, .int .i64 160000] rfl (by (try simp only [List.map_toArray, List.map_cons, List.map_nil]); first | done | rfl | (simp only [List.length_drop, List.length_take]; rfl)) ?_; (with_reducible refine (impl_between.calls a0 1 160000 t160 _ A2.out).mono ?_); rintro e w' ⟨rfl, ⟨nd, rfl⟩⟩; refine ⟨_, rfl, ?_⟩))
  go_ret
  exact ⟨by first | rfl | (simp; done) | (simp [*]; done), by repeat (first | exact Drawn0.refl _ | apply Drawn0.step)⟩

/-! ### impl_product: function 87 -/
def impl_product.l0 : Nat → Int → List Int → Int → Int → Option (Int)
  | 0, _, _, _, _ => none
  | k + 1, x3, x6, x7, x8 => if x8 < x7 then (if 0 ≤ x8 then (if x8 < (x6.length : Int) then (impl_product.l0 k (wrap64 (x3 * (rd x6 x8))) x6 x7 (wrap64 (x8 + 1))) else (none)) else (none)) else (some x3)
def impl_product.f (k : Nat) (l0 : List Int) : Option (Int) := impl_product.l0 k 1 l0 (l0.length : Int) 0
theorem impl_product.mono_l : ∀ k, (∀ y0 y1 y2 y3, LeO (impl_product.l0 k y0 y1 y2 y3) (impl_product.l0 (k + 1) y0 y1 y2 y3))
  | 0 => fun _ _ _ _ r h => by simp [impl_product.l0] at h
  | k + 1 => by
    have ih0 := impl_product.mono_l k
    · intro y0 y1 y2 y3
      unfold impl_product.l0
      repeat' first
      | (with_reducible exact ih0 _ _ _ _)
      | (with_reducible exact LeO.refl _)
      | (with_reducible exact LeO.none _)
      | (with_reducible refine LeO.ite ?_ ?_)
      | (with_reducible refine LeO.bind ?_ (fun _ => ?_))
      | exact ih0 _ _ _ _
      | exact LeO.none _
      | refine LeO.ite ?_ ?_
      | refine LeO.bind ?_ (fun _ => ?_)
theorem impl_product.mono : ∀ a0 k, LeO (impl_product.f k a0) (impl_product.f (k + 1) a0) := by
  intro a0 k
  have ih0 := impl_product.mono_l k
  unfold impl_product.f
  repeat' first
      | (with_reducible exact ih0 _ _ _ _)
      | (with_reducible exact LeO.refl _)
      | (with_reducible exact LeO.none _)
      | (with_reducible refine LeO.ite ?_ ?_)
      | (with_reducible refine LeO.bind ?_ (fun _ => ?_))
      | exact ih0 _ _ _ _
      | exact LeO.none _
      | refine LeO.ite ?_ ?_
      | refine LeO.bind ?_ (fun _ => ?_)
set_option maxHeartbeats 8000000 in
set_option maxRecDepth 100000 in
theorem impl_product.calls (k : Nat) (A0 : Option Addr) (c0 : Nat) (l0 : List Int) (r : Int) (w : World) (hr0 : Kd.C (Kd.int .i64) w A0 l0.length l0) (hc0 : l0.length ≤ c0) (h : impl_product.f k l0 = some r) :
    Calls Tryz.prog 87 #[.slice A0 l0.length c0] w fun e w' => e = .returned (.int .i64 r) ∧ Drawn0 w w' := by
  have HR0 := Aside0.mk hr0
  have HC0 := Aside0.mk hc0
  clear hr0 hc0
  have H : (impl_product.l0 k 1 l0 (l0.length : Int) 0) = some r := h
  clear h
  have H' := Aside0.mk H
  clear H
  go_enter Tryz.func87, Tryz.ntmps87
  go_wp2
  go_loopg [3, 8] k (fun kq v3 v8 w' => ∃ (x3_1 : Int) (x8_1 : Int), v3 = .int .i64 x3_1 ∧ v8 = .int .i64 x8_1 ∧ Aside0 (impl_product.l0 kq x3_1 l0 (l0.length : Int) x8_1 = some r) ∧ Aside0 (kq ≤ k) ∧ Drawn0 w w')
  case atStart => exact ⟨(1), (0), (by first | rfl | (simp; done) | (simp [*]; done)), (by first | rfl | (simp; done) | (simp [*]; done)), H', ⟨Nat.le_refl _⟩, by repeat (first | exact Drawn0.refl _ | apply Drawn0.step)⟩
  case round =>
    clear H'
    obtain ⟨x3_1, x8_1, rfl, rfl, HA, HK1, ⟨m1, rfl⟩⟩ := hrel
    cases gk with
    | zero => exact absurd HA.out (by simp [impl_product.l0])
    | succ k1 =>
      have H := HA.out
      clear HA
      simp only [impl_product.l0] at H
      by_cases c2 : x8_1 < (l0.length : Int)
      · rw [if_pos c2] at H
        have c2b0 : decide (x8_1 < (l0.length : Int)) = true := decide_eq_true c2
        clear c2
        by_cases c3 : 0 ≤ x8_1
        · rw [if_pos c3] at H
          have c3b0 : decide (0 ≤ x8_1) = true := decide_eq_true c3
          clear c3
          by_cases c4 : x8_1 < (l0.length : Int)
          · rw [if_pos c4] at H
            have c4b0 : decide (x8_1 < (l0.length : Int)) = true := decide_eq_true c4
            clear c4
            have H' := Aside0.mk H
            clear H
            have p161 : 0 ≤ (x8_1 : Int) := of_decide_eq_true (by first | (with_reducible assumption) | assumption)
            have q161 : x8_1 < (l0.length : Int) := of_decide_eq_true (by first | (with_reducible assumption) | assumption)
            obtain ⟨ad161, e161, hx161_0⟩ := Kd.at_int HR0.out x8_1 p161 q161
            cases e161
            replace p161 := eq_true p161
            replace q161 := eq_true q161
            go_wp2
            go_roundg k1
            case measure => have := HK1.out; omega
            case rel => exact ⟨(wrap64 (x3_1 * (rd l0 x8_1))), (wrap64 (x8_1 + 1)), (by first | rfl | (simp; done) | (simp [*]; done)), (by first | rfl | (simp; done) | (simp [*]; done)), H', ⟨by have := HK1.out; omega⟩, by repeat (first | exact Drawn0.refl _ | apply Drawn0.step)⟩
          · rw [if_neg c4] at H
            exact absurd H (by simp)
        · rw [if_neg c3] at H
          exact absurd H (by simp)
      · rw [if_neg c2] at H
        have c2b0 : decide (x8_1 < (l0.length : Int)) = false := decide_eq_false c2
        clear c2
        obtain rfl := Option.some.inj H
        go_wp2
        go_ret
        exact ⟨by first | rfl | (simp; done) | (simp [*]; done), by repeat (first | exact Drawn0.refl _ | apply Drawn0.step)⟩

/-! ### impl_productOf: function 53 -/
def impl_productOf.f (k : Nat) (l0 : List Int) : Option (Int) := (impl_product.f k l0).bind fun t162 => (some t162)
theorem impl_productOf.mono : ∀ a0 k, LeO (impl_productOf.f k a0) (impl_productOf.f (k + 1) a0) := by
  intro a0 k
  unfold impl_productOf.f
  repeat' first
      | (with_reducible exact impl_product.mono _ _)
      | (with_reducible exact LeO.refl _)
      | (with_reducible exact LeO.none _)
      | (with_reducible refine LeO.ite ?_ ?_)
      | (with_reducible refine LeO.bind ?_ (fun _ => ?_))
      | exact impl_product.mono _ _
      | exact LeO.none _
      | refine LeO.ite ?_ ?_
      | refine LeO.bind ?_ (fun _ => ?_)
set_option maxHeartbeats 8000000 in
set_option maxRecDepth 100000 in
theorem impl_productOf.calls (k : Nat) (A0 : Option Addr) (c0 : Nat) (l0 : List Int) (r : Int) (w : World) (hr0 : Kd.C (Kd.int .i64) w A0 l0.length l0) (hc0 : l0.length ≤ c0) (h : impl_productOf.f k l0 = some r) :
    Calls Tryz.prog 53 #[.slice A0 l0.length c0] w fun e w' => e = .returned (.int .i64 r) ∧ Drawn0 w w' := by
  have HR0 := Aside0.mk hr0
  have HC0 := Aside0.mk hc0
  clear hr0 hc0
  have H : ((impl_product.f k l0).bind fun t162 => (some t162)) = some r := h
  clear h
  replace H := Option.bind_eq_some_iff.mp H
  obtain ⟨t162, A20, H⟩ := H
  replace H : (some t162) = some r := H
  have A2 := Aside0.mk A20
  clear A20
  obtain rfl := Option.some.inj H
  go_enter Tryz.func53, Tryz.ntmps53
  go_wp2_with (first | ((with_reducible refine gate_callee (f := 87) rfl ?_); refine goesL_ (some 4) rfl rfl Tryz.func87 (by kernel_rfl) rfl #[.slice A0 l0.length c0] rfl (by (try simp only [List.map_toArray, List.map_cons, List.map_nil]); first | done | rfl | (simp only [List.length_drop, List.length_take]; rfl)) ?_; (with_reducible refine (impl_product.calls k _ _ l0 t162 _ ?side1 ?side2 A2.out).mono ?_); (case side1 => repeat (first | exact HR0.out | (with_reducible refine Kd.C_alloc ?_ _) | (with_reducible refine Kd.C_drewN ?_ _) | (with_reducible refine Kd.C_drew ?_))); (case side2 => exact HC0.out); rintro e w' ⟨rfl, ⟨nd, rfl⟩⟩; refine ⟨_, rfl, ?_⟩))
  go_ret
  exact ⟨by first | rfl | (simp; done) | (simp [*]; done), by repeat (first | exact Drawn0.refl _ | apply Drawn0.step)⟩

/-! ### impl_areChildren: function 49 -/
def impl_areChildren.f (a0 : Int) : Option (Bool) := (impl_between.f a0 1 4).bind fun t163 => (some t163)
set_option maxHeartbeats 8000000 in
set_option maxRecDepth 100000 in
theorem impl_areChildren.calls (a0 : Int) (r : Bool) (w : World) (h : impl_areChildren.f a0 = some r) :
    Calls Tryz.prog 49 #[.int .i64 a0] w fun e w' => e = .returned (.bool r) ∧ Drawn0 w w' := by
  have H : ((impl_between.f a0 1 4).bind fun t163 => (some t163)) = some r := h
  clear h
  replace H := Option.bind_eq_some_iff.mp H
  obtain ⟨t163, A20, H⟩ := H
  replace H : (some t163) = some r := H
  have A2 := Aside0.mk A20
  clear A20
  obtain rfl := Option.some.inj H
  go_enter Tryz.func49, Tryz.ntmps49
  go_wp2_with (first | ((with_reducible refine gate_callee (f := 84) rfl ?_); refine goesL_ (some 4) rfl rfl Tryz.func84 (by kernel_rfl) rfl #[.int .i64 a0, .int .i64 1, .int .i64 4] rfl (by (try simp only [List.map_toArray, List.map_cons, List.map_nil]); first | done | rfl | (simp only [List.length_drop, List.length_take]; rfl)) ?_; (with_reducible refine (impl_between.calls a0 1 4 t163 _ A2.out).mono ?_); rintro e w' ⟨rfl, ⟨nd, rfl⟩⟩; refine ⟨_, rfl, ?_⟩))
  go_ret
  exact ⟨by first | rfl | (simp; done) | (simp [*]; done), by repeat (first | exact Drawn0.refl _ | apply Drawn0.step)⟩

end Go.Proofs.YtlbnhjeblknepaaGreat.E
-- WRITTEN by xprint.py, a program of this session that drives the kit's printer: out of the translation. Lean checks it.
namespace Go.Proofs.YtlbnhjeblknepaaGreat.E
open Go.RowKit Go.Proofs.YtlbnhjeblknepaaGreatW.PrintWords Go.Proofs.YtlbnhjeblknepaaGreatW.PrintLast Go.Proofs.YtlbnhjeblknepaaGreatW.PrintMore
attribute [local go_sem] max2_int min2_int max_two min_two max_three min_three max_four min_four   -- for this text's walks alone
set_option linter.unusedVariables false
set_option linter.unusedSimpArgs false

-- OURS, BY HAND
/-! ### slices_Clone_int_int: function 88 -/
-- func slices.Clone[[]int,int]
-- ext rounds=0 making=1
-- import Derived.WalkSpells
def slices_Clone_int_int.f (l0 : List Int) : Option (List Int) := if l0.length < 17592186044416 then some l0 else none
set_option maxHeartbeats 8000000 in
set_option maxRecDepth 100000 in
theorem slices_Clone_int_int.calls (A0 : Option Addr) (c0 : Nat) (l0 : List Int) (r : List Int) (w : World) (hr0 : Kd.C (Kd.int .i64) w A0 l0.length l0) (hc0 : l0.length ≤ c0) (h : slices_Clone_int_int.f l0 = some r) :
    Calls Tryz.prog 88 #[.slice A0 l0.length c0] w fun e w' => ∃ v0_ : Value, e = .returned (v0_) ∧ Kd.R (Kd.int .i64) 3 w' w.heap.size (fun _ => True) v0_ r ∧ Below w.heap.size w w' := by
  have hL : l0.length < 17592186044416 := by
    unfold slices_Clone_int_int.f at h
    split at h
    · assumption
    · cases h
  have hl : l0 = r := by
    unfold slices_Clone_int_int.f at h
    rw [if_pos hL] at h
    exact Option.some.inj h
  subst hl
  clear h
  have HB := Aside0.mk (Below.refl w.heap.size w)
  have HL := Aside0.mk hL
  clear hL
  have q22 : ∀ (w : World) (a : Option Addr) (n c n' c' : Nat), (binOp .eql 31 (.slice a n c) (.slice none n' c')).run Tryz.prog w = .ok (.bool a.isNone) w := fun w a n c n' c' => Lib.run_eql_slice_nil w _ _ a n c n' c' Tryz.underlying31
  cases A0 with
  | none =>
    have hn : l0 = [] := by
      cases l0 with
      | nil => rfl
      | cons x l => obtain ⟨ad, e, _⟩ := hr0.2.2 (by simp); cases e
    subst hn
    go_enter Tryz.func88, Tryz.ntmps88
    go_wp2
    go_ret
    exact ⟨_, rfl, Kd.R_nil _ _ _ _ _, Below.refl _ _⟩
  | some ad =>
    have HR0 := Aside0.mk hr0
    clear hr0
    go_enter Tryz.func88, Tryz.ntmps88
    go_wp2_with (first | ((with_reducible refine gate_dst (N := 5) rfl ?_); refine Kd.R_lit (Kd.int .i64) _ 3 ?hg (N := 5) ?hd (xs := ([] : List Int)) (inner := []) (ok := fun _ => True) (okp := fun _ => True) ?hr ?hp (fun _ hk => hk) trivial (Below.refl _ _) (Nat.le_refl _) (by simp) ?_; (case hd => rfl); (case hg => rfl); (case hr => first | (go_simp; done) | (go_simp; rfl)); (case hp => exact (Reps.none _ _)); intro v198 w3 ho4 hb hg_ hnew_; clear hg_ hnew_; have HO := Aside0.mk (Kd.R_lower ho4 (Nat.le_refl _)); have HB1 := Aside0.mk hb; clear HB ho4 hb) | ((with_reducible refine gate_builtin (b := .append) (xs := #[.tmp 5, .tmp 6]) rfl ?_); at_builtin; refine Kd.R_append_rows (Kd.int .i64) (w0 := w) w.heap.size rfl (.tmp 5) (.tmp 6) 31 3 (.int .i64 0) 8 rfl Tryz.underlying31 info3 rfl (by decide) (by omega) v198 [] l0 _ _ _ (fun _ => True) (fun _ => False) rfl rfl ?aO ?aR (fun _ _ h => h) (fun _ h => h.elim) ?aF ?aB ?aS ?aL ?_; (case aR => exact Kd.C_below HR0.out HB1.out); (case aB => exact HB1.out); (case aF => exact (fun _ _ => trivial)); (case aO => exact HO.out); (case aS => exact HB1.out.size); (case aL => have := HL.out; simp only [List.length_nil]; omega); intro v201 w5 ho hb hg hat; have HO2 := Aside0.mk ho; have HB2 := Aside0.mk hb; clear HB1 HO ho hb hg hat))
    go_ret
    exact ⟨_, rfl, by rw [← List.nil_append l0]; exact HO2.out, HB2.out⟩

end Go.Proofs.YtlbnhjeblknepaaGreat.E
-- WRITTEN by xprint.py, a program of this session that drives the kit's printer: out of the translation. Lean checks it.
namespace Go.Proofs.YtlbnhjeblknepaaGreat.E
open Go.RowKit Go.Proofs.YtlbnhjeblknepaaGreatW.PrintWords Go.Proofs.YtlbnhjeblknepaaGreatW.PrintLast Go.Proofs.YtlbnhjeblknepaaGreatW.PrintMore
attribute [local go_sem] max2_int min2_int max_two min_two max_three min_three max_four min_four   -- for this text's walks alone
set_option linter.unusedVariables false
set_option linter.unusedSimpArgs false

-- OURS, BY HAND
/-! ### impl_sets: function 85 -/
-- func impl.sets
-- ext raw=1
-- needs slices.Clone[[]int,int]
-- needs impl.areChildren
structure Sep (w : World) (base : Nat) (v : Value) (us : List Value) (xs : List (List Int)) : Prop where
  row : w.ownsRow base 31 1 v us.length us
  len : us.length = xs.length
  inn : ∀ (j : Nat) (u : Value) (x : List Int), us[j]? = some u → xs[j]? = some x → (Kd.int .i64).R 3 w base (fun _ => True) u x
  dis : ∀ (i j : Nat) (u u' : Value) (k : Nat), us[i]? = some u → us[j]? = some u' → u.ownBlock = some k → u'.ownBlock = some k → i = j
theorem drop_take_one {α : Type} (l : List α) (j : Nat) {u : α} (h : (l.drop (j * 1)).take 1 = [u]) : l[j]? = some u := by
  have h0 : ((l.drop (j * 1)).take 1)[0]? = some u := by rw [h]; rfl
  rw [List.getElem?_take, if_pos (by omega), List.getElem?_drop] at h0
  simpa using h0
theorem take_drop_one {α : Type} (l : List α) (j : Nat) {u : α} (h : l[j]? = some u) : (l.drop (j * 1)).take 1 = [u] := by
  obtain ⟨hl, rfl⟩ := List.getElem?_eq_some_iff.1 h
  rw [Nat.mul_one, List.drop_eq_getElem_cons hl]
  rfl
theorem Sep.of_S {w : World} {base : Nat} {ok : Nat → Prop} {v : Value} {xs : List (List Int)} (h : Kd.S (Kd.slice 3 (Kd.int .i64)) 31 w base ok v xs) : ∃ us, Sep w base v us xs := by
  obtain ⟨f, h0, inner, ho, hr⟩ := h
  rw [List.length_zipIdx] at ho
  have hlen : inner.length = xs.length := by have := hr.1; rw [List.length_zipIdx] at this; exact this.trans (Nat.mul_one _)
  have key : ∀ (j : Nat) (u : Value) (x : List Int), inner[j]? = some u → xs[j]? = some x → (Kd.int .i64).R 3 w base (fun k => f k = j) u x := by
    intro j u x hu hx
    have hz : xs.zipIdx[j]? = some (x, j) := Kd.zip_at hx
    obtain ⟨u', hc, hR⟩ := hr.2 j (x, j) hz
    have := drop_take_one inner j hc
    rw [hu] at this
    obtain rfl := Option.some.inj this
    exact Kd.R_mono hR (fun k hk => hk.2)
  refine ⟨inner, ⟨by rw [hlen]; exact ho, hlen, fun j u x hu hx => Kd.R_mono (key j u x hu hx) (fun _ _ => trivial), fun i j u u' k hu hu' hk hk' => ?_⟩⟩
  have hil : i < xs.length := by rw [← hlen]; exact (List.getElem?_eq_some_iff.1 hu).1
  have hjl : j < xs.length := by rw [← hlen]; exact (List.getElem?_eq_some_iff.1 hu').1
  have h1 := (key i u _ hu (List.getElem?_eq_getElem hil)).1 k hk
  have h2 := (key j u' _ hu' (List.getElem?_eq_getElem hjl)).1 k hk'
  omega
theorem Sep.reads {w : World} {base : Nat} {v : Value} {us : List Value} {xs : List (List Int)} (h : Sep w base v us xs) : ∃ A c, v = .slice A xs.length c ∧ xs.length ≤ c ∧ Kd.C (Kd.slice 3 (Kd.int .i64)) w A xs.length xs := by
  have hR : Reps ((Kd.slice 3 (Kd.int .i64)).K w) 1 xs us := by
    refine ⟨by rw [h.len, Nat.mul_one], fun j p hp => ?_⟩
    have hjl : j < us.length := by rw [h.len]; exact (List.getElem?_eq_some_iff.1 hp).1
    have hu := List.getElem?_eq_getElem hjl
    rw [take_drop_one us j hu]
    obtain ⟨A, c, e, hl, hC⟩ := Kd.R_reads (h.inn j _ p hu hp)
    exact ⟨A, c, by rw [e], hl, hC⟩
  obtain ⟨A, c, hv, hread⟩ := own_reads_row h.row hR h.len.symm
  rw [h.len] at hv hread
  refine ⟨A, c, hv, ?_, hread⟩
  rcases h.row.2 with ⟨h1, h2⟩ | ⟨g, cap, cur, h1, _, _, h2, _⟩
  · have := h.len; omega
  · rw [h1] at hv
    injection hv with _ h3 h4
    omega
theorem Sep.below {w W : World} {base : Nat} {v : Value} {us : List Value} {xs : List (List Int)} (h : Sep w base v us xs) (hb : Below w.heap.size w W) : Sep W base v us xs :=
  ⟨pw_own_below h.row hb, h.len, fun j u x hu hx => Kd.R_below (h.inn j u x hu hx) hb, h.dis⟩
/-- What a step does: nothing below base; the rows of numbers stay. -/
structure Eff (base : Nat) (W W' : World) : Prop where
  low : Below base W W'
  size : W.heap.size ≤ W'.heap.size
  rows : ∀ (k : Nat) (cells : Array Value), W.heap[k]? = some (.cells cells 3 (0, 0)) → W'.heap[k]? = W.heap[k]?
theorem Eff.refl (base : Nat) (W : World) : Eff base W W := ⟨Below.refl _ _, Nat.le_refl _, fun _ _ _ => rfl⟩
theorem Eff.of_below {base : Nat} {W W' : World} (h : Below W.heap.size W W') (hb : base ≤ W.heap.size) : Eff base W W' :=
  ⟨⟨h.os, h.tape, h.output, h.size, fun k hk => h.block k (Nat.lt_of_lt_of_le hk hb)⟩, h.size, fun k cells hc => h.block k (blk_lt hc)⟩
theorem Eff.trans {base : Nat} {W W1 W2 : World} (h : Eff base W W1) (g : Eff base W1 W2) : Eff base W W2 :=
  ⟨h.low.trans g.low, Nat.le_trans h.size g.size, fun k cells hc => (g.rows k cells ((h.rows k cells hc).trans hc)).trans (h.rows k cells hc)⟩
theorem Eff.R {base b : Nat} {W W' : World} {ok : Nat → Prop} {v : Value} {xs : List Int} (h : (Kd.int .i64).R 3 W b ok v xs) (g : Eff base W W') : (Kd.int .i64).R 3 W' b ok v xs := by
  refine Kd.R_mono (Kd.R_move (Kd.R_bound h) (fun k hk => ?_)) (fun _ hk => hk.1)
  obtain ⟨_, _, _, q, hq, cells, hc⟩ := hk
  have : q = 3 := by
    have h1 : q ∈ [3] := hq
    simpa using h1
  subst this
  exact g.rows k cells hc
def fromOf (l : List Int) : Int := l.getLast?.getD 1
/-- all sets that go on with a list by n children more, in order. -/
def allSets : Nat → List Int → List (List Int)
  | 0, l => [l]
  | n + 1, l => ((List.range (21 - fromOf l).toNat).map fun i : Nat => allSets n (l ++ [fromOf l + (i : Int)])).flatten
def Ages (l : List Int) : Prop := ∀ x ∈ l, 1 ≤ x ∧ x ≤ 20
theorem Ages.from_ {l : List Int} (h : Ages l) : 1 ≤ fromOf l ∧ fromOf l ≤ 20 := by
  unfold fromOf
  cases hl : l.getLast? with
  | none => simp
  | some x => exact h x (List.mem_of_getLast? hl)
theorem fromOf_snoc (l : List Int) (a : Int) : fromOf (l ++ [a]) = a := by simp [fromOf]
theorem Ages.snoc {l : List Int} (h : Ages l) {a : Int} (h1 : 1 ≤ a) (h2 : a ≤ 20) : Ages (l ++ [a]) := by
  intro x hx
  rcases List.mem_append.1 hx with hx | hx
  · exact h x hx
  · simp at hx; subst hx; exact ⟨h1, h2⟩
/-- the first i ages' sets. -/
def setsUpTo (n : Nat) (l : List Int) (i : Nat) : List (List Int) := ((List.range i).map fun j : Nat => allSets n (l ++ [fromOf l + (j : Int)])).flatten
theorem setsUpTo_succ (n : Nat) (l : List Int) (i : Nat) : setsUpTo n l (i + 1) = setsUpTo n l i ++ allSets n (l ++ [fromOf l + (i : Int)]) := by
  unfold setsUpTo
  rw [List.range_succ, List.map_append, List.flatten_append]
  simp
theorem allSets_len (n : Nat) : ∀ l, Ages l → (allSets n l).length ≤ 20 ^ n := by
  induction n with
  | zero => intro l _; simp [allSets]
  | succ n ih =>
    intro l hl
    have hf := hl.from_
    have key : ∀ i : Nat, (i : Int) ≤ 21 - fromOf l → (setsUpTo n l i).length ≤ i * 20 ^ n := by
      intro i
      induction i with
      | zero => intro _; simp [setsUpTo]
      | succ i ih2 =>
        intro hi
        rw [setsUpTo_succ, List.length_append, Nat.succ_mul]
        exact Nat.add_le_add (ih2 (by omega)) (ih _ (hl.snoc (by omega) (by omega)))
    have h1 := key (21 - fromOf l).toNat (by omega)
    have h2 : (21 - fromOf l).toNat * 20 ^ n ≤ 20 * 20 ^ n := Nat.mul_le_mul_right _ (by omega)
    rw [Nat.pow_succ, Nat.mul_comm (20 ^ n) 20]
    exact Nat.le_trans h1 h2
theorem setsUpTo_len (n : Nat) (l : List Int) (i : Nat) (h : Ages l) (hi : (i : Int) ≤ 21 - fromOf l) : (setsUpTo n l i).length ≤ i * 20 ^ n := by
  have hf := h.from_
  induction i with
  | zero => simp [setsUpTo]
  | succ i ih2 =>
    rw [setsUpTo_succ, List.length_append, Nat.succ_mul]
    exact Nat.add_le_add (ih2 (by omega)) (allSets_len n _ (h.snoc (by omega) (by omega)))
theorem getLast_rd (l : List Int) (h : 0 < l.length) : fromOf l = rd l ((l.length - 1 : Nat) : Int) := by
  unfold fromOf rd
  rw [List.getLast?_eq_getElem?, Int.toNat_natCast, List.getD_eq_getElem?_getD, List.getElem?_eq_getElem (by omega)]
  rfl
/-- What is asked of the function that is called for each set: it takes what is known of the sets before it, I done, to I (done ++ [s]). -/
def SetStep (base : Nat) (p q : Nat) (I : List (List Int) → World → Prop) : Prop :=
  ∀ (done : List (List Int)) (s : List Int) (W0 W : World) (v : Value), I done W0 → Below W0.heap.size W0 W → base ≤ W0.heap.size → s.length ≤ 4 → Ages s → done.length < 200000 →
    (Kd.int .i64).R 3 W W0.heap.size (fun _ => True) v s →
    Calls Tryz.prog 86 #[v, .pointer (some ⟨p, 0, none⟩), .pointer (some ⟨q, 0, none⟩)] W fun e w' => e = .returned (.tuple #[]) ∧ I (done ++ [s]) w' ∧ Eff base W w'
set_option maxHeartbeats 8000000 in
set_option maxRecDepth 100000 in
theorem sets_calls (base p q : Nat) (I : List (List Int) → World → Prop) (hst : SetStep base p q I) (hmv : ∀ done W W', I done W → Below W.heap.size W W' → I done W') (n : Nat) :
    ∀ (c : Nat) (l : List Int) (v : Value) (done : List (List Int)) (W0 W : World), l.length + n = c → c ≤ 4 → Ages l → I done W0 → Below W0.heap.size W0 W → base ≤ W0.heap.size → done.length + 20 ^ n ≤ 200000 →
      (Kd.int .i64).R 3 W W0.heap.size (fun _ => True) v l →
      Calls Tryz.prog 85 #[.int .i64 c, v, .func (.func 86) #[] #[.pointer (some ⟨p, 0, none⟩), .pointer (some ⟨q, 0, none⟩)]] W fun e w' => e = .returned (.tuple #[]) ∧ I (done ++ allSets n l) w' ∧ Eff base W w' := by
  induction n with
  | zero =>
    intro c l v done W0 W hc h4 ha hI hb hbase hd hR
    obtain ⟨A, cc, rfl⟩ := Kd.R_slice hR
    have HC := Aside0.mk (hst done l W0 W _ hI hb hbase (by omega) ha (by simp at hd; omega) hR)
    have e1 : ((l.length : Int) == (c : Int)) = true := by simp; omega
    clear hR hI hb
    go_enter Tryz.func85, Tryz.ntmps85
    go_wp2_with (go_at_call 86; (with_reducible refine HC.out.mono ?_); rintro e w' ⟨rfl, hI', hE⟩)
    (first | go_end0 | ((try simp only [Exit.inBlock, Exit.then]); refine bodyPost_ret (results_none rfl _ _ _) rfl ?_))
    exact ⟨rfl, by rw [show allSets 0 l = [l] from rfl]; exact hI', hE⟩
  | succ n ih =>
    intro c l v done W0 W hc h4 ha hI hb hbase hd hR
    obtain ⟨A, cc, rfl⟩ := Kd.R_slice hR
    obtain ⟨hn_, hcc, hC⟩ := Kd.R_reads' hR
    have e1 : ((l.length : Int) == (c : Int)) = false := by simp; omega
    have hfr := ha.from_
    have hl4 : l.length ≤ 4 := by omega
    have HA := Aside0.mk ha
    have HR0 := Aside0.mk hR
    have HI0 := Aside0.mk hI
    have HB0 := Aside0.mk hb
    have HD := Aside0.mk hd
    have HC := Aside0.mk hC
    have HN := Aside0.mk hc
    clear hR hI hb hd hC hn_ ha hc
    by_cases hz : l.length = 0
    · have hnil : l = [] := List.eq_nil_of_length_eq_zero hz
      have hf1 : fromOf l = 1 := by subst hnil; rfl
      have HF := Aside0.mk hf1
      have HZ := Aside0.mk hz
      have e2 : decide (0 < l.length) = false := decide_eq_false (by omega)
      clear hz hnil hf1
      go_enter Tryz.func85, Tryz.ntmps85
      go_wp2
      go_loopw [7] (fun v7 wr => ∃ (i : Nat) (W1 : World), (i : Int) ≤ 21 - fromOf l ∧ v7 = .int .i64 (fromOf l + (i : Int)) ∧ Aside0 (I (done ++ setsUpTo n l i) W1) ∧ Aside0 (Below W1.heap.size W1 wr) ∧ Aside0 (base ≤ W1.heap.size) ∧ Aside0 (Eff base W wr) ∧ Aside0 ((Kd.int .i64).R 3 wr W0.heap.size (fun _ => True) (.slice A l.length cc) l)) (fun v7 _ => (21 - intOf v7).toNat)
      case atStart => exact ⟨0, W0, by omega, by first | (rw [HF.out]; rfl) | simp, ⟨by have := HI0.out; simpa [setsUpTo] using this⟩, HB0, ⟨hbase⟩, ⟨Eff.refl _ _⟩, HR0⟩
      case round =>
        obtain ⟨i, W1, hi, rfl, HI, HBW, HBA, HE, HRl⟩ := hrel
        by_cases hlt : fromOf l + (i : Int) ≤ 20
        · have hd1 : decide (fromOf l + (i : Int) ≤ 20) = true := decide_eq_true hlt
          have HLT := Aside0.mk hlt
          have hcl := fun w hr => slices_Clone_int_int.calls A cc l l w hr hcc (by unfold slices_Clone_int_int.f; rw [if_pos (by omega)])
          go_wp2_with (first | (go_at_call 88; (with_reducible refine (hcl _ (Kd.R_reads' HRl.out).2.2).mono ?_); rintro e w2 ⟨v2, rfl, hR2, hb2⟩; have HR2 := Aside0.mk hR2; have HB2 := Aside0.mk hb2; clear hR2 hb2; obtain ⟨A2, c2, rfl⟩ := Kd.R_slice HR2.out) | ((with_reducible refine gate_builtin (b := .append) (xs := #[.tmp 31, .tmp 33]) rfl ?_); at_builtin; refine Kd.R_append (Kd.int .i64) (w0 := wr) wr.heap.size rfl (.tmp 31) (.tmp 33) 31 3 (.int .i64 0) 8 rfl Tryz.underlying31 info3 rfl (by decide) (by omega) _ l (fromOf l + (i : Int)) [.int .i64 (fromOf l + (i : Int))] (fun _ => True) (fun _ => False) rfl rfl ?aP (fun _ hk => hk.elim) ?aF ?aO ?aB ?aS ?aL ?_; (case aP => exact rfl); (case aB => exact HB2.out); (case aF => exact fun _ _ => trivial); (case aO => exact HR2.out); (case aS => exact HB2.out.size); (case aL => omega); intro v3 w3 ho hb hg hat; have HR3 := Aside0.mk ho; have HB3 := Aside0.mk hb; clear ho hb hg hat))
          have hup : (setsUpTo n l i).length ≤ i * 20 ^ n := setsUpTo_len n l i HA.out (by have := HLT.out; omega)
          have hpow : (i + 1) * 20 ^ n ≤ 20 * 20 ^ n := Nat.mul_le_mul_right _ (by have := HLT.out; omega)
          have hdn : (done ++ setsUpTo n l i).length + 20 ^ n ≤ 200000 := by
            have h1 := HD.out
            rw [Nat.pow_succ, Nat.mul_comm] at h1
            rw [Nat.succ_mul] at hpow
            rw [List.length_append]
            omega
          refine (ih c (l ++ [fromOf l + (i : Int)]) v3 (done ++ setsUpTo n l i) W1 w3 (by have := HN.out; simp; omega) h4 (HA.out.snoc (by omega) HLT.out) HI.out (below_then HBW.out HBW.out.size HB3.out) HBA.out hdn (Kd.R_lower HR3.out HBW.out.size)).mono ?_
          rintro e w4 ⟨rfl, hI4, hE4⟩
          have hE3 : Eff base wr w4 := (Eff.of_below HB3.out (Nat.le_trans HBA.out HBW.out.size)).trans hE4
          have HI4 := Aside0.mk hI4
          have HE4 := Aside0.mk hE3
          clear hI4 hE4 hE3 hup hpow hdn
          go_wp2
          go_roundw
          case rel => exact ⟨i + 1, w4, by have := HLT.out; omega, by first | go_num | (congr 1; omega), ⟨by rw [setsUpTo_succ, ← List.append_assoc]; exact HI4.out⟩, ⟨Below.refl _ _⟩, ⟨Nat.le_trans HBA.out (Nat.le_trans HBW.out.size HE4.out.size)⟩, ⟨HE.out.trans HE4.out⟩, ⟨Eff.R HRl.out HE4.out⟩⟩
          case measure => simp [intOf]; have := HLT.out; omega
        · go_wp2
          (first | go_end0 | ((try simp only [Exit.inBlock, Exit.then]); refine bodyPost_ret (results_none rfl _ _ _) rfl ?_))
          have hi2 : i = (21 - fromOf l).toNat := by omega
          refine ⟨rfl, ?_, HE.out⟩
          rw [show allSets (n + 1) l = setsUpTo n l (21 - fromOf l).toNat from rfl, ← hi2]
          exact hmv _ _ _ HI.out HBW.out
    · have e2 : decide (0 < l.length) = true := decide_eq_true (by omega)
      obtain ⟨ad, rfl, hx0⟩ := Kd.at_int HC.out ((l.length - 1 : Nat) : Int) (by omega) (by omega)
      rw [Int.toNat_natCast, ← getLast_rd l (by omega)] at hx0
      have p1 : (0 ≤ (l.length : Int) - 1) = True := eq_true (by omega)
      have q1 : ((l.length : Int) - 1 < (l.length : Int)) = True := eq_true (by omega)
      go_enter Tryz.func85, Tryz.ntmps85
      go_wp2
      go_loopw [7] (fun v7 wr => ∃ (i : Nat) (W1 : World), (i : Int) ≤ 21 - fromOf l ∧ v7 = .int .i64 (fromOf l + (i : Int)) ∧ Aside0 (I (done ++ setsUpTo n l i) W1) ∧ Aside0 (Below W1.heap.size W1 wr) ∧ Aside0 (base ≤ W1.heap.size) ∧ Aside0 (Eff base W wr) ∧ Aside0 ((Kd.int .i64).R 3 wr W0.heap.size (fun _ => True) (.slice (some ad) l.length cc) l)) (fun v7 _ => (21 - intOf v7).toNat)
      case atStart => exact ⟨0, W0, by omega, by first | (rw [HF.out]; rfl) | simp, ⟨by have := HI0.out; simpa [setsUpTo] using this⟩, HB0, ⟨hbase⟩, ⟨Eff.refl _ _⟩, HR0⟩
      case round =>
        obtain ⟨i, W1, hi, rfl, HI, HBW, HBA, HE, HRl⟩ := hrel
        by_cases hlt : fromOf l + (i : Int) ≤ 20
        · have hd1 : decide (fromOf l + (i : Int) ≤ 20) = true := decide_eq_true hlt
          have HLT := Aside0.mk hlt
          have hcl := fun w hr => slices_Clone_int_int.calls (some ad) cc l l w hr hcc (by unfold slices_Clone_int_int.f; rw [if_pos (by omega)])
          go_wp2_with (first | (go_at_call 88; (with_reducible refine (hcl _ (Kd.R_reads' HRl.out).2.2).mono ?_); rintro e w2 ⟨v2, rfl, hR2, hb2⟩; have HR2 := Aside0.mk hR2; have HB2 := Aside0.mk hb2; clear hR2 hb2; obtain ⟨A2, c2, rfl⟩ := Kd.R_slice HR2.out) | ((with_reducible refine gate_builtin (b := .append) (xs := #[.tmp 31, .tmp 33]) rfl ?_); at_builtin; refine Kd.R_append (Kd.int .i64) (w0 := wr) wr.heap.size rfl (.tmp 31) (.tmp 33) 31 3 (.int .i64 0) 8 rfl Tryz.underlying31 info3 rfl (by decide) (by omega) _ l (fromOf l + (i : Int)) [.int .i64 (fromOf l + (i : Int))] (fun _ => True) (fun _ => False) rfl rfl ?aP (fun _ hk => hk.elim) ?aF ?aO ?aB ?aS ?aL ?_; (case aP => exact rfl); (case aB => exact HB2.out); (case aF => exact fun _ _ => trivial); (case aO => exact HR2.out); (case aS => exact HB2.out.size); (case aL => omega); intro v3 w3 ho hb hg hat; have HR3 := Aside0.mk ho; have HB3 := Aside0.mk hb; clear ho hb hg hat))
          have hup : (setsUpTo n l i).length ≤ i * 20 ^ n := setsUpTo_len n l i HA.out (by have := HLT.out; omega)
          have hpow : (i + 1) * 20 ^ n ≤ 20 * 20 ^ n := Nat.mul_le_mul_right _ (by have := HLT.out; omega)
          have hdn : (done ++ setsUpTo n l i).length + 20 ^ n ≤ 200000 := by
            have h1 := HD.out
            rw [Nat.pow_succ, Nat.mul_comm] at h1
            rw [Nat.succ_mul] at hpow
            rw [List.length_append]
            omega
          refine (ih c (l ++ [fromOf l + (i : Int)]) v3 (done ++ setsUpTo n l i) W1 w3 (by have := HN.out; simp; omega) h4 (HA.out.snoc (by omega) HLT.out) HI.out (below_then HBW.out HBW.out.size HB3.out) HBA.out hdn (Kd.R_lower HR3.out HBW.out.size)).mono ?_
          rintro e w4 ⟨rfl, hI4, hE4⟩
          have hE3 : Eff base wr w4 := (Eff.of_below HB3.out (Nat.le_trans HBA.out HBW.out.size)).trans hE4
          have HI4 := Aside0.mk hI4
          have HE4 := Aside0.mk hE3
          clear hI4 hE4 hE3 hup hpow hdn
          go_wp2
          go_roundw
          case rel => exact ⟨i + 1, w4, by have := HLT.out; omega, by first | go_num | (congr 1; omega), ⟨by rw [setsUpTo_succ, ← List.append_assoc]; exact HI4.out⟩, ⟨Below.refl _ _⟩, ⟨Nat.le_trans HBA.out (Nat.le_trans HBW.out.size HE4.out.size)⟩, ⟨HE.out.trans HE4.out⟩, ⟨Eff.R HRl.out HE4.out⟩⟩
          case measure => simp [intOf]; have := HLT.out; omega
        · go_wp2
          (first | go_end0 | ((try simp only [Exit.inBlock, Exit.then]); refine bodyPost_ret (results_none rfl _ _ _) rfl ?_))
          have hi2 : i = (21 - fromOf l).toNat := by omega
          refine ⟨rfl, ?_, HE.out⟩
          rw [show allSets (n + 1) l = setsUpTo n l (21 - fromOf l).toNat from rfl, ← hi2]
          exact hmv _ _ _ HI.out HBW.out
theorem wrap_small (x : Int) (h : -1000000000 ≤ x) (h2 : x ≤ 1000000000) : wrap64 x = x := by
  unfold wrap64; omega
theorem between_is (a lo hi : Int) : impl_between.f a lo hi = some (decide (lo ≤ a ∧ a ≤ hi)) := by
  unfold impl_between.f
  by_cases h : a ≥ lo
  · rw [if_pos h]; simp [h]
  · rw [if_neg h]; simp; omega
theorem impl_areChildren.is_ (c : Int) : impl_areChildren.f c = some (decide (1 ≤ c ∧ c ≤ 4)) := by unfold impl_areChildren.f; rw [between_is]; rfl
theorem infoRows : (Tryz.prog.info? 31).map (fun i => (i.zero, i.size, i.bytes)) = some (some (.slice none 0 0), 1, 24) := by kernel_rfl
/-- The list that is written through a pointer: the box q, the sets in it. -/
def Outs (base q : Nat) (done : List (List Int)) (W : World) : Prop :=
  ∃ v, W.heap[q]? = some (.cells #[v] 26 (0, 0)) ∧ Kd.S (Kd.slice 3 (Kd.int .i64)) 31 W base (fun _ => True) v done
theorem Outs.below {base q : Nat} : ∀ (done : List (List Int)) (W W' : World), Outs base q done W → Below W.heap.size W W' → Outs base q done W' := by
  intro done W W' h hb
  obtain ⟨v, h3, h4⟩ := h
  exact ⟨v, (hb.block q (blk_lt h3)).trans h3, Kd.S_below h4 hb⟩

end Go.Proofs.YtlbnhjeblknepaaGreat.E
-- WRITTEN by xprint.py, a program of this session that drives the kit's printer: out of the translation. Lean checks it.
namespace Go.Proofs.YtlbnhjeblknepaaGreat.E
open Go.RowKit Go.Proofs.YtlbnhjeblknepaaGreatW.PrintWords Go.Proofs.YtlbnhjeblknepaaGreatW.PrintLast Go.Proofs.YtlbnhjeblknepaaGreatW.PrintMore
attribute [local go_sem] max2_int min2_int max_two min_two max_three min_three max_four min_four   -- for this text's walks alone
set_option linter.unusedVariables false
set_option linter.unusedSimpArgs false

-- OURS, BY HAND
/-! ### impl_SetsOfProduct: function 10 -/
-- func impl.SetsOfProduct
-- ext rounds=0 making=1
-- needs impl.sets
-- needs impl.productOf
-- needs impl.isProduct
def prodL (l : List Int) : Int := l.foldl (· * ·) 1
/-- what is kept while sets are gathered: the two captured boxes, the number that is looked for, the list of those found. -/
def Got (base p q r : Nat) (t : Int) (Q : Int → List Int → Bool) (done : List (List Int)) (W : World) : Prop :=
  W.heap[p]? = some (.cells #[.func (.func 52) #[] #[.pointer (some ⟨r, 0, none⟩)]] 37 (0, 0)) ∧ W.heap[r]? = some (.cells #[.int .i64 t] 3 (0, 0)) ∧
    ∃ v, W.heap[q]? = some (.cells #[v] 26 (0, 0)) ∧ Kd.S (Kd.slice 3 (Kd.int .i64)) 31 W base (fun _ => True) v (done.filter (Q t))
theorem Got.below {base p q r : Nat} {t : Int} {Q : Int → List Int → Bool} : ∀ (done : List (List Int)) (W W' : World), Got base p q r t Q done W → Below W.heap.size W W' → Got base p q r t Q done W' := by
  intro done W W' h hb
  obtain ⟨h1, h2, v, h3, h4⟩ := h
  exact ⟨(hb.block p (blk_lt h1)).trans h1, (hb.block r (blk_lt h2)).trans h2, v, (hb.block q (blk_lt h3)).trans h3, Kd.S_below h4 hb⟩
def Asks (Q : Int → List Int → Bool) : Prop := ∀ (t : Int) (s : List Int) (v : Value) (r b : Nat) (W : World), Ages s → s.length ≤ 4 → (Kd.int .i64).R 3 W b (fun _ => True) v s → W.heap[r]? = some (.cells #[.int .i64 t] 3 (0, 0)) →
  Calls Tryz.prog 52 #[v, .pointer (some ⟨r, 0, none⟩)] W fun e w' => e = .returned (.bool (Q t s)) ∧ Drawn0 W w'
set_option maxHeartbeats 8000000 in
set_option maxRecDepth 100000 in
theorem got_step (base p q r : Nat) (t : Int) (Q : Int → List Int → Bool) (hQ : Asks Q) (hp : base ≤ p) (hq : base ≤ q) : SetStep base p q (Got base p q r t Q) := by
  intro done s W0 W v hI hb hbase h4 ha hd hR
  obtain ⟨k1, k2, vo, k3, k4⟩ := hI
  have g1 := (hb.block p (blk_lt k1)).trans k1
  have g2 := (hb.block r (blk_lt k2)).trans k2
  have g3 := (hb.block q (blk_lt k3)).trans k3
  have gS := Kd.S_elder' k4 (Kd.R_base hR) hb
  have hbW : base ≤ W.heap.size := Nat.le_trans hbase hb.size
  have hc1 : W.cell? ⟨p, 0, none⟩ = some (.func (.func 52) #[] #[.pointer (some ⟨r, 0, none⟩)]) := (blk_cell g1 0).trans rfl
  have hcall := hQ t s v r _ W ha h4 hR g2
  obtain ⟨A, c, rfl⟩ := Kd.R_slice hR
  have HS := Aside0.mk gS
  have HR := Aside0.mk hR
  have HB := Aside0.mk hb
  have G1 := Aside0.mk g1
  have G2 := Aside0.mk g2
  have G3 := Aside0.mk g3
  have HBW := Aside0.mk hbW
  cases hqs : Q t s with
  | false =>
    rw [hqs] at hcall
    have HC := Aside0.mk hcall
    have HF := Aside0.mk hqs
    clear k1 k2 k3 k4 g1 g2 g3 gS hbW hcall hR hb hqs
    go_enter Tryz.func86, Tryz.ntmps86
    go_wp2_with (go_at_call 52; (with_reducible refine HC.out.mono ?_); rintro e w' ⟨rfl, ⟨nd, rfl⟩⟩)
    (first | go_end0 | ((try simp only [Exit.inBlock, Exit.then]); refine bodyPost_ret (results_none rfl _ _ _) rfl ?_))
    refine ⟨rfl, ⟨G1.out, G2.out, vo, G3.out, ?_⟩, Eff.of_below (pw_below_drewN (Below.refl _ _) nd) HBW.out⟩
    rw [List.filter_append]
    have : [s].filter (Q t) = [] := by simp [HF.out]
    rw [this, List.append_nil]
    exact Kd.S_drewN (Kd.S_drop HS.out) nd
  | true =>
    rw [hqs] at hcall
    have HC := Aside0.mk hcall
    have HF := Aside0.mk hqs
    obtain ⟨Ao, co, rfl⟩ := Kd.S_slice gS
    have hc3 : W.cell? ⟨q, 0, none⟩ = some (.slice Ao (done.filter (Q t)).length co) := (blk_cell g3 0).trans rfl
    have hty := Kd.S_typed gS
    have HTY := Aside0.mk hty
    have HD := Aside0.mk (Nat.lt_of_le_of_lt (List.length_filter_le (Q t) done) hd)
    have HRT := Aside0.mk (Kd.R_mono (Kd.R_tight rfl (Kd.R_apart' (Kd.R_lower hR hbase) hty (by decide))) (fun _ h => h))
    have HRA := Aside0.mk (Kd.R_apart' (Kd.R_lower hR hbase) hty (by decide)).1
    clear k1 k2 k3 k4 g1 g2 g3 gS hbW hcall hR hb hqs hty
    go_enter Tryz.func86, Tryz.ntmps86
    go_wp2_with (first | (go_at_call 52; (with_reducible refine HC.out.mono ?_); rintro e w' ⟨rfl, ⟨nd, rfl⟩⟩) | ((with_reducible refine gate_builtin (b := .append) (xs := #[.tmp 7, .tmp 9]) rfl ?_); at_builtin; refine Kd.S_append (Kd.slice 3 (Kd.int .i64)) (w0 := W) base rfl (.tmp 7) (.tmp 9) 26 31 (.slice none 0 0) 24 rfl Tryz.underlying26 infoRows rfl (by decide) (by omega) (.slice Ao (done.filter (Q t)).length co) (done.filter (Q t)) s [.slice A s.length c] (fun _ => True) (fun k_ => some k_ = (.slice A s.length c : Value).ownBlock) rfl rfl ?aP (fun k_ hk_ => ⟨trivial, (HRA.out k_ hk_.symm).2⟩) (fun _ _ => trivial) ?aO ?aB ?aS ?aL ?_; (case aP => exact Kd.M_row (by (with_reducible repeat (first | apply Kd.R_alloc | apply Kd.R_drewN)); exact HRT.out)); (case aO => exact Kd.S_drewN (Kd.S_mono HS.out (fun _ hk => ⟨trivial, fun e_ => hk.2 e_⟩)) _); (case aB => exact pw_below_drewN (Below.refl _ _) _); (case aS => exact HBW.out); (case aL => have := HD.out; omega); intro v1 w1 ho hb hg hat; have gq1 := blk_grown (blk_drewN G3.out nd) hg (fun he => by obtain ⟨_, hx⟩ := HTY.out q he.symm; rw [G3.out] at hx; cases hx); have hc4 := blk_cell gq1 0; have hfz4 := blk_frozen gq1 0; obtain ⟨A1, c1, rfl⟩ := Kd.S_slice ho; have HO := Aside0.mk ho; have HB1 := Aside0.mk hb; have HG := Aside0.mk hg; have GQ1 := Aside0.mk gq1; clear ho hb hg hat gq1; simp only [List.getElem?_toArray, List.getElem?_cons_zero] at hc4))
    (first | go_end0 | ((try simp only [Exit.inBlock, Exit.then]); refine bodyPost_ret (results_none rfl _ _ _) rfl ?_))
    have gp1 := blk_grown (blk_drewN G1.out nd) HG.out (fun he => by obtain ⟨_, hx⟩ := HTY.out p he.symm; rw [G1.out] at hx; cases hx)
    have gr1 := blk_grown (blk_drewN G2.out nd) HG.out (fun he => by obtain ⟨_, hx⟩ := HTY.out r he.symm; rw [G2.out] at hx; cases hx)
    refine ⟨rfl, ⟨blk_far gp1 (blk_ne gp1 GQ1.out (by decide)) _, blk_far gr1 (blk_ne gr1 GQ1.out (by decide)) _, _, one_setCell GQ1.out, ?_⟩, ?_, ?_, ?_⟩
    · rw [List.filter_append]
      have : [s].filter (Q t) = [s] := by simp [HF.out]
      rw [this]
      have hz := Kd.S_set HO.out GQ1.out (by decide) 0 (.slice A1 ((done.filter (Q t)).length + 1) c1)
      rw [List.length_append] at hz
      exact hz
    · exact HB1.out.setCell hq _
    · have h1 := HG.out.size
      simpa using h1
    · intro k cells hk
      have h1 := blk_grown (blk_drewN hk nd) HG.out (fun he => by obtain ⟨_, hx⟩ := HTY.out k he.symm; rw [hk] at hx; cases hx)
      exact (blk_far h1 (blk_ne h1 GQ1.out (by decide)) _).trans hk.symm
set_option maxHeartbeats 8000000 in
set_option maxRecDepth 100000 in
theorem setsThat_calls (r : Nat) (t : Int) (Q : Int → List Int → Bool) (hQ : Asks Q) (c : Nat) (h4 : c ≤ 4) (W : World) (hr : W.heap[r]? = some (.cells #[.int .i64 t] 3 (0, 0))) :
    Calls Tryz.prog 51 #[.int .i64 c, .func (.func 52) #[] #[.pointer (some ⟨r, 0, none⟩)]] W fun e w' => ∃ v, e = .returned v ∧ Kd.S (Kd.slice 3 (Kd.int .i64)) 31 w' W.heap.size (fun _ => True) v ((allSets c []).filter (Q t)) ∧ Below W.heap.size W w' := by
  have HS := Aside0.mk (fun (q : Nat) (W' : World) (hq : W.heap.size ≤ q) (hG : Got W.heap.size W.heap.size q r t Q [] W') (hs : W.heap.size ≤ W'.heap.size) =>
    sets_calls W.heap.size W.heap.size q _ (got_step W.heap.size W.heap.size q r t Q hQ (Nat.le_refl _) hq) Got.below c c [] (.slice none 0 0) [] W' W' (by simp) h4 (fun x hx => by simp at hx) hG (Below.refl _ _) hs (by have h1 : 20 ^ c ≤ 20 ^ 4 := Nat.pow_le_pow_right (by omega) h4; simp; omega) (Kd.R_nil _ _ _ _ _))
  have HR := Aside0.mk hr
  clear hr
  go_enter Tryz.func51, Tryz.ntmps51
  go_wp2_with (first | ((with_reducible refine gate_dst (N := 6) rfl ?_); refine Kd.S_lit (Kd.slice 3 (Kd.int .i64)) (w0 := W) W.heap.size 31 ?hg (N := 6) ?hd (xs := ([] : List (List Int))) (inner := []) (ok := fun _ => True) (okp := fun _ => True) ?hr ?hp (fun _ hk => hk) trivial ?hB ?hS (by simp) ?_; (case hd => rfl); (case hg => rfl); (case hr => first | (go_simp; done) | (go_simp; rfl)); (case hp => exact (Reps.none _ _)); (case hB => exact below_alloc (Below.refl _ _) _); (case hS => simp); intro v1 w1 ho hb hg hnew; obtain ⟨A1, c1, rfl⟩ := Kd.S_slice ho; have HO := Aside0.mk ho; have HB1 := Aside0.mk hb; have HG := Aside0.mk hg; have GP := Aside0.mk (blk_grown (blk_new W _) hg (by simp)); have GR := Aside0.mk (blk_grown (blk_alloc HR.out _) hg (by simp)); clear ho hb hg hnew) | (go_at_call 85; (with_reducible refine (HS.out _ _ ?h1 ?h2 ?h3).mono ?_); (case h1 => exact HB1.out.size); (case h2 => exact ⟨blk_alloc GP.out _, blk_alloc GR.out _, _, blk_new _ _, Kd.S_alloc HO.out _⟩); (case h3 => first | (have := HB1.out.size; simp; omega) | exact HB1.out.size); rintro e w' ⟨rfl, hI', hE⟩; obtain ⟨_, _, vo, gq, hSo⟩ := hI'; have hc5 := blk_cell gq 0; have HSO := Aside0.mk hSo; have HE := Aside0.mk hE; clear gq hSo hE; simp only [List.getElem?_toArray, List.getElem?_cons_zero] at hc5))
  go_ret
  exact ⟨vo, rfl, HSO.out, (below_alloc HB1.out _).trans HE.out.low⟩
theorem prodOn (l : List Int) (hl : l.length ≤ 4) (ha : Ages l) : ∀ (n i : Nat) (acc : Int), i + n = l.length → 0 ≤ acc → acc ≤ 20 ^ i → impl_product.l0 (n + 1) acc l (l.length : Int) (i : Int) = some ((l.drop i).foldl (· * ·) acc) := by
  intro n
  induction n with
  | zero =>
    intro i acc hi h0 h1
    have : ¬ ((i : Int) < (l.length : Int)) := by omega
    rw [impl_product.l0, if_neg this, List.drop_of_length_le (by omega)]
    rfl
  | succ n ih =>
    intro i acc hi h0 h1
    have hlt : i < l.length := by omega
    have hr : rd l (i : Int) = l[i] := by simp [rd, List.getD, List.getElem?_eq_getElem hlt]
    have hx := ha l[i] (List.getElem_mem hlt)
    have h2 : acc * l[i] ≤ 20 ^ (i + 1) := by
      rw [Int.pow_succ]
      exact Int.mul_le_mul h1 hx.2 (by omega) (by have := Int.pow_nonneg (n := 20) (m := i) (by omega); omega)
    have h3 : 0 ≤ acc * l[i] := Int.mul_nonneg h0 (by omega)
    have h4 : (20 : Int) ^ (i + 1) ≤ 20 ^ 4 := by
      have : (20 : Nat) ^ (i + 1) ≤ 20 ^ 4 := Nat.pow_le_pow_right (by omega) (by omega)
      exact_mod_cast this
    rw [impl_product.l0, if_pos (by omega), if_pos (by omega), if_pos (by omega), hr, wrap_small (acc * l[i]) (by omega) (by omega), wrap_small ((i : Int) + 1) (by omega) (by omega)]
    have := ih (i + 1) (acc * l[i]) (by omega) h3 h2
    rw [List.drop_eq_getElem_cons hlt, List.foldl_cons]
    exact_mod_cast this
theorem product_is (l : List Int) (hl : l.length ≤ 4) (ha : Ages l) : impl_productOf.f (l.length + 1) l = some (prodL l) := by
  unfold impl_productOf.f impl_product.f
  rw [show (impl_product.l0 (l.length + 1) 1 l (l.length : Int) 0) = some (prodL l) from prodOn l hl ha l.length 0 1 (by omega) (by omega) (by simp)]
  rfl
def hasProd (t : Int) (s : List Int) : Bool := decide (prodL s = t)
set_option maxHeartbeats 8000000 in
set_option maxRecDepth 100000 in
theorem asks_prod : Asks hasProd := by
  intro t s v r b W ha h4 hR hr
  obtain ⟨A, c, rfl⟩ := Kd.R_slice hR
  obtain ⟨_, hcc, hC⟩ := Kd.R_reads' hR
  have HP := Aside0.mk (fun n => impl_productOf.calls _ A c s _ (W.drewN n) (Kd.C_drewN hC n) hcc (product_is s h4 ha))
  have hc1 := fun m => blk_cell (blk_drewN hr m) 0
  simp only [List.getElem?_toArray, List.getElem?_cons_zero] at hc1
  have e1 : (prodL s == t) = hasProd t s := rfl
  clear hR hC
  go_enter Tryz.func52, Tryz.ntmps52
  go_wp2
  go_quiet ((go_at_call 53; (with_reducible refine (HP.out _).mono ?_); rintro e w' ⟨rfl, ⟨nd, rfl⟩⟩; exact ⟨rfl, _, World.drewN_drewN _ _ _⟩))
  go_wp2
  go_ret
  exact ⟨by rw [← e1]; rfl, ⟨_, rfl⟩⟩
def impl_SetsOfProduct.f (c p : Int) : Option (List (List Int) × Bool) := if 1 ≤ c ∧ c ≤ 4 ∧ 1 ≤ p ∧ p ≤ 160000 then some ((allSets c.toNat []).filter (hasProd p), true) else some ([], false)
theorem impl_isProduct.is_ (c : Int) : impl_isProduct.f c = some (decide (1 ≤ c ∧ c ≤ 160000)) := by unfold impl_isProduct.f; rw [between_is]; rfl
set_option maxHeartbeats 8000000 in
set_option maxRecDepth 100000 in
theorem impl_SetsOfProduct.calls (c p : Int) (r1 : List (List Int)) (r2 : Bool) (W : World) (h : impl_SetsOfProduct.f c p = some (r1, r2)) :
    Calls Tryz.prog 10 #[.int .i64 c, .int .i64 p] W fun e w' => ∃ v, e = .returned (.tuple #[v, .bool r2]) ∧ Kd.S (Kd.slice 3 (Kd.int .i64)) 31 w' W.heap.size (fun _ => True) v r1 ∧ Below W.heap.size W w' := by
  unfold impl_SetsOfProduct.f at h
  have HA := Aside0.mk (fun w => impl_areChildren.calls c _ w (impl_areChildren.is_ c))
  have HB := Aside0.mk (fun w => impl_isProduct.calls p _ w (impl_isProduct.is_ p))
  by_cases c1 : 1 ≤ c ∧ c ≤ 4
  · rw [decide_eq_true c1] at HA
    by_cases p1 : 1 ≤ p ∧ p ≤ 160000
    · rw [decide_eq_true p1] at HB
      rw [if_pos ⟨c1.1, c1.2, p1.1, p1.2⟩] at h
      obtain ⟨n, rfl⟩ : ∃ n : Nat, c = n := ⟨c.toNat, by omega⟩
      simp only [Option.some.injEq, Prod.mk.injEq] at h
      obtain ⟨rfl, rfl⟩ := h
      have HT := Aside0.mk (fun (W' : World) hr => setsThat_calls W.heap.size p hasProd asks_prod n (by omega) W' hr)
      clear c1 p1
      go_enter Tryz.func10, Tryz.ntmps10
      go_wp2_with (first | (go_at_call 49; (with_reducible refine (HA.out _).mono ?_); rintro e w' ⟨rfl, ⟨nd, rfl⟩⟩) | (go_at_call 50; (with_reducible refine (HB.out _).mono ?_); rintro e w' ⟨rfl, ⟨nd2, rfl⟩⟩) | (go_at_call 51; (with_reducible refine (HT.out _ (by first | exact blk_new _ _ | exact blk_drewN (blk_new _ _) _ | exact blk_drewN (blk_drewN (blk_new _ _) _) _)).mono ?_); rintro e w' ⟨v, rfl, hS, hb⟩; have HS := Aside0.mk hS; have HBW := Aside0.mk hb; clear hS hb; obtain ⟨A1, c1, rfl⟩ := Kd.S_slice HS.out))
      go_ret2
      refine ⟨_, rfl, Kd.S_lower HS.out ?_, ?_⟩
      · simp
      · exact below_then (by repeat (first | exact Below.refl _ _ | apply below_alloc | apply pw_below_drewN)) (by simp) HBW.out
    · rw [decide_eq_false p1] at HB
      rw [if_neg (fun hx => p1 ⟨hx.2.2.1, hx.2.2.2⟩)] at h
      simp only [Option.some.injEq, Prod.mk.injEq] at h
      obtain ⟨rfl, rfl⟩ := h
      clear c1 p1
      go_enter Tryz.func10, Tryz.ntmps10
      go_wp2_with (first | (go_at_call 49; (with_reducible refine (HA.out _).mono ?_); rintro e w' ⟨rfl, ⟨nd, rfl⟩⟩) | (go_at_call 50; (with_reducible refine (HB.out _).mono ?_); rintro e w' ⟨rfl, ⟨nd2, rfl⟩⟩))
      go_ret2
      exact ⟨_, rfl, Kd.S_nil _ _ _ _ _, by repeat (first | exact Below.refl _ _ | apply below_alloc | apply pw_below_drewN)⟩
  · rw [decide_eq_false c1] at HA
    rw [if_neg (fun hx => c1 ⟨hx.1, hx.2.1⟩)] at h
    simp only [Option.some.injEq, Prod.mk.injEq] at h
    obtain ⟨rfl, rfl⟩ := h
    clear c1
    go_enter Tryz.func10, Tryz.ntmps10
    go_wp2_with (first | (go_at_call 49; (with_reducible refine (HA.out _).mono ?_); rintro e w' ⟨rfl, ⟨nd, rfl⟩⟩) | (go_at_call 50; (with_reducible refine (HB.out _).mono ?_); rintro e w' ⟨rfl, ⟨nd2, rfl⟩⟩))
    go_ret2
    exact ⟨_, rfl, Kd.S_nil _ _ _ _ _, by repeat (first | exact Below.refl _ _ | apply below_alloc | apply pw_below_drewN)⟩

end Go.Proofs.YtlbnhjeblknepaaGreat.E
-- WRITTEN by xprint.py, a program of this session that drives the kit's printer: out of the translation. Lean checks it.
namespace Go.Proofs.YtlbnhjeblknepaaGreat.E
open Go.RowKit Go.Proofs.YtlbnhjeblknepaaGreatW.PrintWords Go.Proofs.YtlbnhjeblknepaaGreatW.PrintLast
set_option linter.unusedVariables false
set_option linter.unusedSimpArgs false

/-! ### impl_hasOldest: function 44 -/
def impl_hasOldest.f (l0 : List Int) : Option (Bool) := if (l0.length : Int) = 1 then (some true) else (if 0 ≤ (wrap64 ((l0.length : Int) - 1)) then (if (wrap64 ((l0.length : Int) - 1)) < (l0.length : Int) then (if 0 ≤ (wrap64 ((l0.length : Int) - 2)) then (if (wrap64 ((l0.length : Int) - 2)) < (l0.length : Int) then (some (decide ((rd l0 (wrap64 ((l0.length : Int) - 1))) > (rd l0 (wrap64 ((l0.length : Int) - 2)))))) else (none)) else (none)) else (none)) else (none))
set_option maxHeartbeats 8000000 in
set_option maxRecDepth 100000 in
theorem impl_hasOldest.calls (A0 : Option Addr) (c0 : Nat) (l0 : List Int) (r : Bool) (w : World) (hr0 : Kd.C (Kd.int .i64) w A0 l0.length l0) (hc0 : l0.length ≤ c0) (h : impl_hasOldest.f l0 = some r) :
    Calls Tryz.prog 44 #[.slice A0 l0.length c0] w fun e w' => e = .returned (.bool r) ∧ Drawn0 w w' := by
  have HR0 := Aside0.mk hr0
  have HC0 := Aside0.mk hc0
  clear hr0 hc0
  have H : (if (l0.length : Int) = 1 then (some true) else (if 0 ≤ (wrap64 ((l0.length : Int) - 1)) then (if (wrap64 ((l0.length : Int) - 1)) < (l0.length : Int) then (if 0 ≤ (wrap64 ((l0.length : Int) - 2)) then (if (wrap64 ((l0.length : Int) - 2)) < (l0.length : Int) then (some (decide ((rd l0 (wrap64 ((l0.length : Int) - 1))) > (rd l0 (wrap64 ((l0.length : Int) - 2)))))) else (none)) else (none)) else (none)) else (none))) = some r := h
  clear h
  by_cases c2 : (l0.length : Int) = 1
  · rw [if_pos c2] at H
    have c2b0 : ((l0.length : Int) == 1) = true := beq_iff_eq.mpr c2
    have c2b1 : ((l0.length : Int) != 1) = false := bne_eq_false_iff_eq.mpr c2
    clear c2
    obtain rfl := Option.some.inj H
    go_enter Tryz.func44, Tryz.ntmps44
    go_wp2
    repeat (go_quiet (fail); try go_wp2)
    go_ret
    exact ⟨by first | rfl | (simp; done) | (simp [*]; done), by repeat (first | exact Drawn0.refl _ | apply Drawn0.step)⟩
  · rw [if_neg c2] at H
    have c2b0 : ((l0.length : Int) == 1) = false := beq_eq_false_iff_ne.mpr c2
    have c2b1 : ((l0.length : Int) != 1) = true := bne_iff_ne.mpr c2
    obtain ⟨ji3, hji3⟩ : ∃ j_ : Int, (wrap64 ((l0.length : Int) - 1)) = j_ := ⟨_, rfl⟩
    replace H : (if 0 ≤ (ji3) then (if (ji3) < (l0.length : Int) then (if 0 ≤ (wrap64 ((l0.length : Int) - 2)) then (if (wrap64 ((l0.length : Int) - 2)) < (l0.length : Int) then (some (decide ((rd l0 (ji3)) > (rd l0 (wrap64 ((l0.length : Int) - 2)))))) else (none)) else (none)) else (none)) else (none)) = some r := by first | (rw [hji3] at H; exact H) | (simp only [hji3] at H ⊢; exact H)
    have hji3w : (IntKind.i64.wrap ((l0.length : Int) - 1)) = ji3 := (i64_w _).trans hji3
    by_cases c4 : 0 ≤ (ji3)
    · rw [if_pos c4] at H
      have c4b0 : decide (0 ≤ (ji3)) = true := decide_eq_true c4
      clear c4
      by_cases c5 : (ji3) < (l0.length : Int)
      · rw [if_pos c5] at H
        have c5b0 : decide ((ji3) < (l0.length : Int)) = true := decide_eq_true c5
        clear c5
        obtain ⟨ji6, hji6⟩ : ∃ j_ : Int, (wrap64 ((l0.length : Int) - 2)) = j_ := ⟨_, rfl⟩
        replace H : (if 0 ≤ (ji6) then (if (ji6) < (l0.length : Int) then (some (decide ((rd l0 (ji3)) > (rd l0 (ji6))))) else (none)) else (none)) = some r := by first | (rw [hji6] at H; exact H) | (simp only [hji6] at H ⊢; exact H)
        have hji6w : (IntKind.i64.wrap ((l0.length : Int) - 2)) = ji6 := (i64_w _).trans hji6
        by_cases c7 : 0 ≤ (ji6)
        · rw [if_pos c7] at H
          have c7b0 : decide (0 ≤ (ji6)) = true := decide_eq_true c7
          clear c7
          by_cases c8 : (ji6) < (l0.length : Int)
          · rw [if_pos c8] at H
            have c8b0 : decide ((ji6) < (l0.length : Int)) = true := decide_eq_true c8
            clear c8
            obtain rfl := Option.some.inj H
            have p164 : 0 ≤ ((ji3) : Int) := of_decide_eq_true (by first | (with_reducible assumption) | assumption)
            have q164 : (ji3) < (l0.length : Int) := of_decide_eq_true (by first | (with_reducible assumption) | assumption)
            obtain ⟨ad164, e164, hx164_0⟩ := Kd.at_int HR0.out (ji3) p164 q164
            cases e164
            replace p164 := eq_true p164
            replace q164 := eq_true q164
            have p165 : 0 ≤ ((ji6) : Int) := of_decide_eq_true (by first | (with_reducible assumption) | assumption)
            have q165 : (ji6) < (l0.length : Int) := of_decide_eq_true (by first | (with_reducible assumption) | assumption)
            obtain ⟨ad165, e165, hx165_0⟩ := Kd.at_int HR0.out (ji6) p165 q165
            obtain rfl : ad164 = ad165 := (by injection e165)
            replace p165 := eq_true p165
            replace q165 := eq_true q165
            go_enter Tryz.func44, Tryz.ntmps44
            go_wp2
            repeat (go_quiet (fail); try go_wp2)
            go_ret
            exact ⟨by first | rfl | (simp; done) | (simp only [← hji3, ← hji6] <;> (first | rfl | simp)) | (simp [*]; done), by repeat (first | exact Drawn0.refl _ | apply Drawn0.step)⟩
          · rw [if_neg c8] at H
            exact absurd H (by simp)
        · rw [if_neg c7] at H
          exact absurd H (by simp)
      · rw [if_neg c5] at H
        exact absurd H (by simp)
    · rw [if_neg c4] at H
      exact absurd H (by simp)

/-! ### impl_hasYoungest: function 48 -/
def impl_hasYoungest.f (l0 : List Int) : Option (Bool) := if (l0.length : Int) = 1 then (some true) else (if 0 < (l0.length : Int) then (if 1 < (l0.length : Int) then (some (decide ((rd l0 0) < (rd l0 1)))) else (none)) else (none))
set_option maxHeartbeats 8000000 in
set_option maxRecDepth 100000 in
theorem impl_hasYoungest.calls (A0 : Option Addr) (c0 : Nat) (l0 : List Int) (r : Bool) (w : World) (hr0 : Kd.C (Kd.int .i64) w A0 l0.length l0) (hc0 : l0.length ≤ c0) (h : impl_hasYoungest.f l0 = some r) :
    Calls Tryz.prog 48 #[.slice A0 l0.length c0] w fun e w' => e = .returned (.bool r) ∧ Drawn0 w w' := by
  have HR0 := Aside0.mk hr0
  have HC0 := Aside0.mk hc0
  clear hr0 hc0
  have H : (if (l0.length : Int) = 1 then (some true) else (if 0 < (l0.length : Int) then (if 1 < (l0.length : Int) then (some (decide ((rd l0 0) < (rd l0 1)))) else (none)) else (none))) = some r := h
  clear h
  by_cases c2 : (l0.length : Int) = 1
  · rw [if_pos c2] at H
    have c2b0 : ((l0.length : Int) == 1) = true := beq_iff_eq.mpr c2
    have c2b1 : ((l0.length : Int) != 1) = false := bne_eq_false_iff_eq.mpr c2
    clear c2
    obtain rfl := Option.some.inj H
    go_enter Tryz.func48, Tryz.ntmps48
    go_wp2
    repeat (go_quiet (fail); try go_wp2)
    go_ret
    exact ⟨by first | rfl | (simp; done) | (simp [*]; done), by repeat (first | exact Drawn0.refl _ | apply Drawn0.step)⟩
  · rw [if_neg c2] at H
    have c2b0 : ((l0.length : Int) == 1) = false := beq_eq_false_iff_ne.mpr c2
    have c2b1 : ((l0.length : Int) != 1) = true := bne_iff_ne.mpr c2
    by_cases c3 : 0 < (l0.length : Int)
    · rw [if_pos c3] at H
      have c3b0 : decide (0 < (l0.length : Int)) = true := decide_eq_true c3
      have c3b1 : decide (0 < l0.length) = true := decide_eq_true (by omega)
      clear c3
      by_cases c4 : 1 < (l0.length : Int)
      · rw [if_pos c4] at H
        have c4b0 : decide (1 < (l0.length : Int)) = true := decide_eq_true c4
        have c4b1 : decide (1 < l0.length) = true := decide_eq_true (by omega)
        clear c4
        obtain rfl := Option.some.inj H
        have p166 : 0 ≤ (0 : Int) := (by omega)
        have q166 : 0 < (l0.length : Int) := of_decide_eq_true (by first | (with_reducible assumption) | assumption)
        obtain ⟨ad166, e166, hx166_0⟩ := Kd.at_int HR0.out 0 p166 q166
        cases e166
        have qi166 : (0 < l0.length) = True := eq_true (by omega)
        (try rw [show ((0 : Int)).toNat = 0 from rfl] at hx166_0)
        (try rw [Addr.add_zero'] at hx166_0)
        replace p166 := eq_true p166
        replace q166 := eq_true q166
        have p167 : 0 ≤ (1 : Int) := (by omega)
        have q167 : 1 < (l0.length : Int) := of_decide_eq_true (by first | (with_reducible assumption) | assumption)
        obtain ⟨ad167, e167, hx167_0⟩ := Kd.at_int HR0.out 1 p167 q167
        obtain rfl : ad166 = ad167 := (by injection e167)
        (try simp only [show (1 : Int).toNat = 1 from rfl, Nat.reduceMul, Nat.reduceEqDiff, Go.Addr.add, ↓reduceIte] at hx167_0)
        have qi167 : (1 < l0.length) = True := eq_true (by omega)
        (try rw [show ((1 : Int)).toNat = 1 from rfl] at hx167_0)
        replace p167 := eq_true p167
        replace q167 := eq_true q167
        go_enter Tryz.func48, Tryz.ntmps48
        go_wp2
        repeat (go_quiet (fail); try go_wp2)
        go_ret
        exact ⟨by first | rfl | (simp; done) | (simp [*]; done), by repeat (first | exact Drawn0.refl _ | apply Drawn0.step)⟩
      · rw [if_neg c4] at H
        exact absurd H (by simp)
    · rw [if_neg c3] at H
      exact absurd H (by simp)

end Go.Proofs.YtlbnhjeblknepaaGreat.E
