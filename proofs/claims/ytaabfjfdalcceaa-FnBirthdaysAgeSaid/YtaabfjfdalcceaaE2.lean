-- WRITTEN by xprint.py, a program of this session that drives the kit's printer: out of the translation. Lean checks it.
import Derived.Test.YtaabfjfdalcceaaE0
import Derived.Test.YtaabfjfdalcceaaE1
import Derived.Test.YtaabfjfdalcceaaWLast
import Derived.Test.YtaabfjfdalcceaaWWords
namespace Go.Proofs.Ytaabfjfdalcceaa.E
open Go.RowKit Go.Proofs.YtaabfjfdalcceaaW.PrintWords Go.Proofs.YtaabfjfdalcceaaW.PrintLast
set_option linter.unusedVariables false
set_option linter.unusedSimpArgs false

-- OURS, BY HAND
/-! ### spec_DrawAgesOn: function 34 -/
-- func spec.DrawAgesOn
-- ext rounds=1 making=1
-- needs (*spec.l1Cur).births
-- needs (*spec.l1Cur).date
-- needs (*spec.l1Cur).sureDate
-- needs (*spec.l1Cur).among
-- import Derived.WalkKit
-- import Derived.Deep.RegionWith
-- import Derived.Deep.RegionLaw
-- import Derived.IntWalk
-- import Derived.WalkSpells
-- import Derived.Deep.RegionHeld3
-- seat Ytaabfjfdalcceaa
theorem stor_ {P : Program} {ops : Array Oper} {oi : Oper} {a : Act} {w : World} {K : Act → World → Prop} {Q : Exit → Act → World → Prop} {N : Option Tmp} (hw : Region.wanted oi (yielded ops a.tmps) = true) (hN : oi.dst = N) {w1 : World} (hrun : (execOp a.eval oi).run P w = .ok .skip w1) (h : K (a.put N undef) w1) : if Region.wanted oi (yielded ops a.tmps) = true then Oper.wp P oi a w K Q else K (a.put N undef) w := by
  subst hN
  rw [if_pos hw]
  unfold Oper.wp
  rw [hrun]
  exact h
theorem put2 {w : World} {g : Nat} {t : TypeId} {x y : Value} (h : w.heap[g]? = some (.cells #[x, y] t (0, 0))) (a b : Value) : ((w.setCell ⟨g, 0, none⟩ a).setCell ⟨g, 1, none⟩ b).heap[g]? = some (.cells #[a, b] t (0, 0)) := blk_put (blk_put h 0 a rfl) 1 b rfl
theorem far2 {w : World} {g q : Nat} {t : TypeId} {cs : Array Value} (h : w.heap[g]? = some (.cells cs t (0, 0))) (hne : g ≠ q) (a b : Value) : ((w.setCell ⟨q, 0, none⟩ a).setCell ⟨q, 1, none⟩ b).heap[g]? = some (.cells cs t (0, 0)) := blk_far (blk_far h hne a) hne b
theorem R_past {α : Type} {d : Kd α} {e base : Nat} {ok : Nat → Prop} {w : World} {v : Value} {xs : List α} (h : d.R e w base ok v xs) {g : Nat} (hg : g < base) : d.R e w base (fun k => ok k ∧ k ≠ g) v xs := Kd.R_mono (Kd.R_bound h) (fun k hk => ⟨hk.1, by have := hk.2.1; omega⟩)
theorem R_to {α : Type} {d : Kd α} {e base : Nat} {ok : Nat → Prop} {w : World} {v : Value} {xs : List α} (h : d.R e w base ok v xs) : d.R e w base (fun _ => True) v xs := Kd.R_mono h (fun _ _ => trivial)
def spec_DrawAgesOn.f (k : Nat) (l0 : List Int) : Option (List S26 × Int × Int) := (spec_l1Cur_births.f k l0 0 0).bind fun a => (spec_l1Cur_date.f l0 a.2.1 a.2.2).bind fun b => some (a.1, b.1, b.2.1)
theorem spec_DrawAgesOn.mono : ∀ a0 k, LeO (spec_DrawAgesOn.f k a0) (spec_DrawAgesOn.f (k + 1) a0) := by
  intro a0 k
  unfold spec_DrawAgesOn.f
  exact LeO.bind (spec_l1Cur_births.mono _ _ _ _) (fun _ => LeO.refl _)
set_option maxHeartbeats 8000000 in
set_option maxRecDepth 100000 in
theorem spec_DrawAgesOn.calls (k : Nat) (A0 : Option Addr) (c0 : Nat) (l0 : List Int) (r1 : List S26) (r2 : Int) (r3 : Int) (w : World) (hr0 : Kd.C (Kd.int .u8) w A0 l0.length l0) (hc0 : l0.length ≤ c0) (h : spec_DrawAgesOn.f k l0 = some (r1, r2, r3)) :
    Calls Try.prog 34 #[.slice A0 l0.length c0] w fun e w' => ∃ v0_ : Value, e = .returned (.tuple #[v0_, .agg #[.int .i64 r2, .int .i64 r3]]) ∧ Kd.R k26 26 w' w.heap.size (fun _ => True) v0_ r1 ∧ Below w.heap.size w w' := by
  have hu26 := Try.underlying26
  have hu66 := Try.underlying66
  have HB := am (Below.refl w.heap.size w)
  unfold spec_DrawAgesOn.f at h
  obtain ⟨⟨a1, a2, a3⟩, hA, H⟩ := Option.bind_eq_some_iff.1 h
  obtain ⟨⟨t1, t2, t3, t4⟩, hA2, H⟩ := Option.bind_eq_some_iff.1 H
  have HA := am hA
  have HA2 := am hA2
  simp only [Option.some.injEq, Prod.mk.injEq] at H
  obtain ⟨rfl, rfl, rfl⟩ := H
  have HR0 := am hr0
  clear hr0 hc0 h hA hA2
  go_enter Try.func34, Try.ntmps34
  go_wp2_with (first | ((with_reducible refine gate_dst (N := 3) rfl ?_); refine gX 3 #[.int .i64 0, .int .i64 0] 26 ?_; intro g3 hg w1 hbox hb; have HB' := am (below_step HB.out hb); have HG3 := am (show w.heap.size ≤ g3 by rw [hg]; exact below_size HB.out); clear HB; have HB := HB'; clear HB'; have BK3 := am hbox; clear hb hbox hg) | ((with_reducible refine gate_dst (N := 8) rfl ?_); refine gX 8 #[.slice A0 l0.length c0, .int .i64 0, .int .u64 0] 66 ?_; intro g8 hg w2 hbox hb; have HB' := am (below_step HB.out hb); have HG8 := am (show w.heap.size ≤ g8 by rw [hg]; exact below_size HB.out); have BK3' := am (blk_below BK3.out hb); have NE3_8 := am (show g3 ≠ g8 by rw [hg]; exact Nat.ne_of_lt (blk_lt BK3.out)); clear HB; have HB := HB'; clear HB'; clear BK3; have BK3 := BK3'; clear BK3'; have BK8 := am hbox; clear hb hbox hg) | (go_at_call 49; (with_reducible refine (spec_l1Cur_births.calls k g8 l0 0 0 a1 a2 a3 w _ ?hI ?hB HA.out).mono ?_); (case hI => exact ⟨A0, c0, BK8.out, HG8.out, HR0.out⟩); (case hB => exact HB.out); have HB2 := HB; rintro e w3 ⟨v0, rfl, hR, hI, hb, hk⟩; have HB' := am hb; have BK3' := am (hk.blk BK3.out NE3_8.out (by simp)); have HI' := am hI; clear HB; have HB := HB'; clear HB'; have HRR := am (R_past (IsS66.apart hI (Kd.R_lower hR (Nat.le_refl _)) (by decide)) (blk_lt BK3.out)); have HLE := am (below_size HB2.out); clear BK3; have BK3 := BK3'; clear BK3'; (try clear HI); have HI := HI'; clear HI' hb hk hI; clear hR) | (go_at_call 50; (with_reducible refine (spec_l1Cur_date.calls g8 l0 a2 a3 t1 t2 t3 t4 w _ ?hI ?hB HA2.out).mono ?_); (case hI => exact HI.out); (case hB => exact HB.out); rintro e w4 ⟨rfl, hI, hb, hk⟩; have HB' := am hb; have BK3' := am (hk.blk BK3.out NE3_8.out (by simp)); have HI' := am hI; clear HB; have HB := HB'; clear HB'; have HRK := am (Kd.R_keep HRR.out hk (fun k hk => hk.1.2)); clear HRR; have HRR := HRK; clear HRK; clear BK3; have BK3 := BK3'; clear BK3'; (try clear HI); have HI := HI'; clear HI' hb hk hI; have hcz3_0 : w4.cell? ⟨g3, 0, none⟩ = some (.int .i64 0) := (blk_cell BK3.out 0).trans rfl; have hcz3_1 : w4.cell? ⟨g3, 1, none⟩ = some (.int .i64 0) := (blk_cell BK3.out 1).trans rfl; have hfz3_0 := blk_frozen BK3.out 0; have hfz3_1 := blk_frozen BK3.out 1))
  refine bodyPost_ret (results_tc rfl _ _ g3 26 #[.int .i64 t1, .int .i64 t2] (0, 0) _ rfl (blk_put (cs := #[.int .i64 t1, .int .i64 0]) (blk_put (cs := #[.int .i64 0, .int .i64 0]) (BK3.out) 0 _ rfl) 1 _ rfl) Try.underlying26 rfl (by kernel_rfl)) rfl ?_
  exact ⟨_, rfl, R_to (Kd.R_far (Kd.R_far (Kd.R_lower HRR.out HLE.out) (fun k hk => hk.2) _) (fun k hk => hk.2) _), below_set (below_set HB.out HG3.out) HG3.out⟩

end Go.Proofs.Ytaabfjfdalcceaa.E
