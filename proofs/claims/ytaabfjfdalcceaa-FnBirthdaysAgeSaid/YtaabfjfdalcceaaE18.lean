-- WRITTEN by xprint.py, a program of this session that drives the kit's printer: out of the translation. Lean checks it.
import Derived.Test.YtaabfjfdalcceaaE0
import Derived.Test.YtaabfjfdalcceaaE1
import Derived.Test.YtaabfjfdalcceaaWLast
import Derived.Test.YtaabfjfdalcceaaWWords
namespace Go.Proofs.Ytaabfjfdalcceaa.E
open Go.RowKit Go.Proofs.YtaabfjfdalcceaaW.PrintWords Go.Proofs.YtaabfjfdalcceaaW.PrintLast
set_option linter.unusedVariables false
set_option linter.unusedSimpArgs false

-- OURS, BY HAND
/-! ### spec_DrawIsDate: function 31 -/
-- func spec.DrawIsDate
-- ext rounds=0 making=1
-- needs (*spec.l1Cur).births
-- needs (*spec.l1Cur).date
-- needs (*spec.l1Cur).sureDate
-- needs (*spec.l1Cur).among
-- needs spec.DrawAgesOn
-- import Derived.WalkKit
-- import Derived.Deep.RegionWith
-- import Derived.Deep.RegionLaw
-- import Derived.IntWalk
-- import Derived.WalkSpells
-- import Derived.Deep.RegionHeld3
-- seat Ytaabfjfdalcceaa
def spec_DrawIsDate.f (l0 : List Int) : Option (Int × Int) := (spec_l1Cur_date.f l0 0 0).bind fun b => some (b.1, b.2.1)
set_option maxHeartbeats 8000000 in
set_option maxRecDepth 100000 in
theorem spec_DrawIsDate.calls (A0 : Option Addr) (c0 : Nat) (l0 : List Int) (r1 : Int) (r2 : Int) (w : World) (hr0 : Kd.C (Kd.int .u8) w A0 l0.length l0) (hc0 : l0.length ≤ c0) (h : spec_DrawIsDate.f l0 = some (r1, r2)) :
    Calls Try.prog 31 #[.slice A0 l0.length c0] w fun e w' => e = .returned (.agg #[.int .i64 r1, .int .i64 r2]) ∧ Below w.heap.size w w' := by
  have hu26 := Try.underlying26
  have hu66 := Try.underlying66
  have HB := am (Below.refl w.heap.size w)
  unfold spec_DrawIsDate.f at h
  obtain ⟨⟨t1, t2, t3, t4⟩, hA, H⟩ := Option.bind_eq_some_iff.1 h
  have HA := am hA
  simp only [Option.some.injEq, Prod.mk.injEq] at H
  obtain ⟨rfl, rfl⟩ := H
  have HR0 := am hr0
  clear hr0 hc0 h hA
  go_enter Try.func31, Try.ntmps31
  go_wp2_with (first | ((with_reducible refine gate_dst (N := 2) rfl ?_); refine gX 2 #[.int .i64 0, .int .i64 0] 26 ?_; intro g2 hg w1 hbox hb; have HB' := am (below_step HB.out hb); have HG2 := am (show w.heap.size ≤ g2 by rw [hg]; exact below_size HB.out); clear HB; have HB := HB'; clear HB'; have BK2 := am hbox; clear hb hbox hg) | ((with_reducible refine gate_dst (N := 6) rfl ?_); refine gX 6 #[.slice A0 l0.length c0, .int .i64 0, .int .u64 0] 66 ?_; intro g6 hg w2 hbox hb; have HB' := am (below_step HB.out hb); have HG6 := am (show w.heap.size ≤ g6 by rw [hg]; exact below_size HB.out); have BK2' := am (blk_below BK2.out hb); have NE2_6 := am (show g2 ≠ g6 by rw [hg]; exact Nat.ne_of_lt (blk_lt BK2.out)); clear HB; have HB := HB'; clear HB'; clear BK2; have BK2 := BK2'; clear BK2'; have BK6 := am hbox; clear hb hbox hg) | (go_at_call 50; (with_reducible refine (spec_l1Cur_date.calls g6 l0 0 0 t1 t2 t3 t4 w _ ?hI ?hB HA.out).mono ?_); (case hI => exact ⟨A0, c0, BK6.out, HG6.out, HR0.out⟩); (case hB => exact HB.out); rintro e w3 ⟨rfl, hI, hb, hk⟩; have HB' := am hb; have BK2' := am (hk.blk BK2.out NE2_6.out (by simp)); have HI' := am hI; clear HB; have HB := HB'; clear HB'; clear BK2; have BK2 := BK2'; clear BK2'; (try clear HI); have HI := HI'; clear HI' hb hk hI; have hcz2_0 : w3.cell? ⟨g2, 0, none⟩ = some (.int .i64 0) := (blk_cell BK2.out 0).trans rfl; have hcz2_1 : w3.cell? ⟨g2, 1, none⟩ = some (.int .i64 0) := (blk_cell BK2.out 1).trans rfl; have hfz2_0 := blk_frozen BK2.out 0; have hfz2_1 := blk_frozen BK2.out 1))
  refine bodyPost_ret (results_cell_row rfl _ _ g2 26 #[.int .i64 t1, .int .i64 t2] (0, 0) _ rfl (blk_put (cs := #[.int .i64 t1, .int .i64 0]) (blk_put (cs := #[.int .i64 0, .int .i64 0]) (BK2.out) 0 _ rfl) 1 _ rfl) Try.underlying26 rfl (by kernel_rfl)) rfl ?_
  exact ⟨rfl, below_set (below_set HB.out HG2.out) HG2.out⟩

end Go.Proofs.Ytaabfjfdalcceaa.E
