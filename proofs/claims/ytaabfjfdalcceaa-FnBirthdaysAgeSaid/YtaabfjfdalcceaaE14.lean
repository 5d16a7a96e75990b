-- WRITTEN by xprint.py, a program of this session that drives the kit's printer: out of the translation. Lean checks it.
import Derived.Test.YtaabfjfdalcceaaE0
import Derived.Test.YtaabfjfdalcceaaE1
import Derived.Test.YtaabfjfdalcceaaE2
import Derived.Test.YtaabfjfdalcceaaWLast
import Derived.Test.YtaabfjfdalcceaaWRepsOne
namespace Go.Proofs.Ytaabfjfdalcceaa.E
open Go.RowKit Go.Proofs.YtaabfjfdalcceaaW.PrintWords Go.Proofs.YtaabfjfdalcceaaW.PrintLast
set_option linter.unusedVariables false
set_option linter.unusedSimpArgs false

-- OURS, BY HAND
/-! ### spec_DrawAddDays: function 25 -/
-- func spec.DrawAddDays
-- ext rounds=0 making=1
-- needs (*spec.l1Cur).births
-- needs (*spec.l1Cur).date
-- needs (*spec.l1Cur).sureDate
-- needs (*spec.l1Cur).among
-- needs spec.DrawAgesOn
-- import Derived.WalkKit
-- import Derived.Deep.RegionWith
-- import Derived.Deep.RegionLaw
-- import Derived.IntWalk
-- import Derived.WalkSpells
-- import Derived.Deep.RegionHeld3
-- seat Ytaabfjfdalcceaa
def spec_DrawAddDays.f (l0 : List Int) : Option (Int × Int × Int) := (spec_l1Cur_date.f l0 0 0).bind fun a => (spec_l1Cur_among.f l0 a.2.2.1 a.2.2.2 ([0, 1, (-1), 100, 365, (-365), 2000000, (-2000000), 2000001, 4611686018427387904] : List Int)).bind fun b => some (a.1, a.2.1, b.1)
set_option maxHeartbeats 8000000 in
set_option maxRecDepth 100000 in
theorem spec_DrawAddDays.calls (A0 : Option Addr) (c0 : Nat) (l0 : List Int) (r1 : Int) (r2 : Int) (r3 : Int) (w : World) (hr0 : Kd.C (Kd.int .u8) w A0 l0.length l0) (hc0 : l0.length ≤ c0) (h : spec_DrawAddDays.f l0 = some (r1, r2, r3)) :
    Calls Try.prog 25 #[.slice A0 l0.length c0] w fun e w' => e = .returned (.tuple #[.agg #[.int .i64 r1, .int .i64 r2], .int .i64 r3]) ∧ Below w.heap.size w w' := by
  have hu26 := Try.underlying26
  have hu66 := Try.underlying66
  have HB := am (Below.refl w.heap.size w)
  unfold spec_DrawAddDays.f at h
  obtain ⟨⟨a1, a2, a3, a4⟩, hA, H⟩ := Option.bind_eq_some_iff.1 h
  obtain ⟨⟨t1, t2, t3⟩, hA2, H⟩ := Option.bind_eq_some_iff.1 H
  have HA := am hA
  have HA2 := am hA2
  simp only [Option.some.injEq, Prod.mk.injEq] at H
  obtain ⟨rfl, rfl, rfl⟩ := H
  have HR0 := am hr0
  clear hr0 hc0 h hA hA2
  go_enter Try.func25, Try.ntmps25
  go_wp2_with (first | ((with_reducible refine gate_dst (N := 2) rfl ?_); refine gX 2 #[.int .i64 0, .int .i64 0] 26 ?_; intro g2 hg w1 hbox hb; have HB' := am (below_step HB.out hb); have HG2 := am (show w.heap.size ≤ g2 by rw [hg]; exact below_size HB.out); clear HB; have HB := HB'; clear HB'; have BK2 := am hbox; clear hb hbox hg) | ((with_reducible refine gate_dst (N := 8) rfl ?_); refine gX 8 #[.slice A0 l0.length c0, .int .i64 0, .int .u64 0] 66 ?_; intro g8 hg w3 hbox hb; have HB' := am (below_step HB.out hb); have HG8 := am (show w.heap.size ≤ g8 by rw [hg]; exact below_size HB.out); have BK2' := am (blk_below BK2.out hb); have NE2_8 := am (show g2 ≠ g8 by rw [hg]; exact Nat.ne_of_lt (blk_lt BK2.out)); clear HB; have HB := HB'; clear HB'; clear BK2; have BK2 := BK2'; clear BK2'; have BK8 := am hbox; clear hb hbox hg) | (go_at_call 50; (with_reducible refine (spec_l1Cur_date.calls g8 l0 0 0 a1 a2 a3 a4 w _ ?hI ?hB HA.out).mono ?_); (case hI => exact ⟨A0, c0, BK8.out, HG8.out, HR0.out⟩); (case hB => exact HB.out); rintro e w4 ⟨rfl, hI, hb, hk⟩; have HB' := am hb; have BK2' := am (hk.blk BK2.out NE2_8.out (by simp)); have HI' := am hI; clear HB; have HB := HB'; clear HB'; clear BK2; have BK2 := BK2'; clear BK2'; (try clear HI); have HI := HI'; clear HI' hb hk hI; skip) | ((with_reducible refine gate_dst (N := 5) rfl ?_); refine gX 5 #[.int .i64 0, .int .i64 0] 26 ?_; intro g5 hg w5 hbox hb; have HB' := am (below_step HB.out hb); have HG5 := am (show w.heap.size ≤ g5 by rw [hg]; exact below_size HB.out); have BK2' := am (blk_below BK2.out hb); have NE2_5 := am (show g2 ≠ g5 by rw [hg]; exact Nat.ne_of_lt (blk_lt BK2.out)); clear HB; have HB := HB'; clear HB'; clear BK2; have BK2 := BK2'; clear BK2'; have BK5 := am hbox; have NE5_8 := am (show g5 ≠ g8 by rw [hg]; exact Nat.ne_of_gt HI.out.lt); have HI' := am (HI.out.below hb); clear HI; have HI := HI'; clear HI'; clear hb hbox hg; have hcz5_0 : w5.cell? ⟨g5, 0, none⟩ = some (.int .i64 0) := (blk_cell BK5.out 0).trans rfl; have hcz5_1 : w5.cell? ⟨g5, 1, none⟩ = some (.int .i64 0) := (blk_cell BK5.out 1).trans rfl; have hfz5_0 := blk_frozen BK5.out 0; have hfz5_1 := blk_frozen BK5.out 1))
  have BK5' := am (put2 BK5.out (.int .i64 a1) (.int .i64 a2))
  have BK2' := am (far2 BK2.out NE2_5.out (.int .i64 a1) (.int .i64 a2))
  have HI' := am ((HI.out.far (p := ⟨g5, 0, none⟩) NE5_8.out.symm (.int .i64 a1)).far (p := ⟨g5, 1, none⟩) NE5_8.out.symm (.int .i64 a2))
  have HB' := am (below_set (j := 1) (v := .int .i64 a2) (below_set (j := 0) (v := .int .i64 a1) HB.out HG5.out) HG5.out)
  clear BK5 BK2 HI HB hcz5_0 hcz5_1 hfz5_0 hfz5_1
  generalize (w5.setCell ⟨g5, 0, none⟩ (.int .i64 a1)).setCell ⟨g5, 1, none⟩ (.int .i64 a2) = wA at BK5' BK2' HI' HB' ⊢
  have BK5 := am (blk_drew BK5'.out)
  have BK2 := am (blk_drew BK2'.out)
  have HI := am (HI'.out.drew)
  have HB := am (below_drew1 HB'.out)
  clear BK5' BK2' HI' HB'
  refine start_ (n := 6) (S := fun w' => w'.cell? ⟨g5, 0, none⟩ = some (.int .i64 a1) ∧ w'.cell? ⟨g5, 1, none⟩ = some (.int .i64 a2)) (ds := [4]) #[false, false, false, false, false, false] (by kernel_rfl) rfl rfl ⟨(blk_cell BK5.out 0).trans rfl, (blk_cell BK5.out 1).trans rfl⟩ (fun hHeld => ?_)
  generalize wA.drew = w6 at BK2 BK5 HI HB hHeld ⊢
  refine take_ (i := 0) (N := some 11) (v := ?_) (a' := ?_) #[true, false, false, false, false, false] rfl rfl (by kernel_rfl) (fun _ _ _ h => h) (Or.inl ⟨by rfl, ?_⟩) hHeld ?_ ?_
  rotate_left
  · rintro w' ⟨s0, s1⟩
    go_simp
    with_reducible rfl
  rotate_left
  · simp only [Act.put, List.setIfInBounds_toArray, List.set_cons_zero, List.set_cons_succ, i64_w, i32_w]
    rfl
  refine pure_ (i := 1) (N := some 12) (v := ?_) (a' := ?_) #[true, true, false, false, false, false] rfl rfl (by kernel_rfl) (fun _ _ _ h => h) (Or.inl ⟨by rfl, ?_⟩) ?_ ?_
  rotate_left
  · intro w'
    go_simp
    with_reducible rfl
  rotate_left
  · simp only [Act.put, List.setIfInBounds_toArray, List.set_cons_zero, List.set_cons_succ, i64_w, i32_w]
    rfl
  refine one_ (i := 2) (N := some 13) #[true, true, true, false, false, false] rfl rfl (by kernel_rfl) (by decide) (fun K hK => ?_)
  refine Kd.R_lit_step (Kd.int .i64) w.heap.size 3 (by rfl) (N := 13) rfl (xs := ([0, 1, (-1), 100, 365, (-365), 2000000, (-2000000), 2000001, 4611686018427387904] : List Int)) (inner := [.int .i64 0, .int .i64 1, .int .i64 (-1), .int .i64 100, .int .i64 365, .int .i64 (-365), .int .i64 2000000, .int .i64 (-2000000), .int .i64 2000001, .int .i64 4611686018427387904]) (ok := fun _ => True) (okp := fun _ => True) ?hr ?hp (fun _ hk => hk) trivial HB.out (below_size HB.out) (by simp) ?_
  case hr => first | (go_simp; done) | (go_simp; rfl)
  case hp => exact (Reps.one (show Kd.M (Kd.int .i64) _ _ _ 0 [.int .i64 0] from rfl) (Reps.one (show Kd.M (Kd.int .i64) _ _ _ 1 [.int .i64 1] from rfl) (Reps.one (show Kd.M (Kd.int .i64) _ _ _ (-1) [.int .i64 (-1)] from rfl) (Reps.one (show Kd.M (Kd.int .i64) _ _ _ 100 [.int .i64 100] from rfl) (Reps.one (show Kd.M (Kd.int .i64) _ _ _ 365 [.int .i64 365] from rfl) (Reps.one (show Kd.M (Kd.int .i64) _ _ _ (-365) [.int .i64 (-365)] from rfl) (Reps.one (show Kd.M (Kd.int .i64) _ _ _ 2000000 [.int .i64 2000000] from rfl) (Reps.one (show Kd.M (Kd.int .i64) _ _ _ (-2000000) [.int .i64 (-2000000)] from rfl) (Reps.one (show Kd.M (Kd.int .i64) _ _ _ 2000001 [.int .i64 2000001] from rfl) (Reps.one (show Kd.M (Kd.int .i64) _ _ _ 4611686018427387904 [.int .i64 4611686018427387904] from rfl) (Reps.none _ _)))))))))))
  intro v13 w7 ho hb hg_ hnew_
  obtain ⟨A13, c13, rfl⟩ := Kd.R_slice ho
  have HO := am ho
  have HF := am (show ∀ ad, A13 = some ad → 0 < (([0, 1, (-1), 100, 365, (-365), 2000000, (-2000000), 2000001, 4611686018427387904] : List Int)).length → ad.block ≠ g8 from fun ad he _ => by obtain ⟨b, hb1, hb2⟩ := hnew_; subst he; have h8 := HI.out.lt; simp only [Value.ownBlock, Option.some.injEq] at hb1; omega)
  have BK2' := am (blk_grown BK2.out hg_ (by simp))
  clear BK2
  have BK2 := BK2'
  clear BK2'
  have BK5' := am (blk_grown BK5.out hg_ (by simp))
  clear BK5
  have BK5 := BK5'
  clear BK5'
  have HI' := am (HI.out.grown hg_ (by simp))
  clear HI HB
  have HI := HI'
  have HB := am hb
  clear HI' hb hg_ hnew_ ho
  refine hK.out _ _ ⟨(blk_cell BK5.out 0).trans rfl, (blk_cell BK5.out 1).trans rfl⟩ (fun hHeld => ?_)
  clear hK K
  refine norm_ (a' := ?_) ?_ ?_
  rotate_left
  · show Act.put _ (some 13) _ = _
    simp only [Act.put, List.setIfInBounds_toArray, List.set_cons_zero, List.set_cons_succ, i64_w, i32_w]
    rfl
  refine one_ (i := 3) (N := some 14) #[true, true, true, true, false, false] rfl rfl (by kernel_rfl) (by decide) (fun K hK => ?_)
  refine goes_ Try.func52 (by kernel_rfl) rfl #[.pointer (some ⟨g8, 0, none⟩), .slice A13 (([0, 1, (-1), 100, 365, (-365), 2000000, (-2000000), 2000001, 4611686018427387904] : List Int)).length c13] (by rfl) rfl rfl (by simp only [List.map_toArray, List.map_cons, List.map_nil]; rfl) ?_
  with_reducible refine (spec_l1Cur_among.calls g8 l0 a3 a4 A13 c13 ([0, 1, (-1), 100, 365, (-365), 2000000, (-2000000), 2000001, 4611686018427387904] : List Int) t1 t2 t3 w _ HI.out HB.out (Kd.R_reads' HO.out).2.2 (Kd.R_reads' HO.out).2.1 HF.out HA2.out).mono ?_
  rintro e w8 ⟨rfl, hI, hb, hk⟩
  refine ⟨_, rfl, ?_⟩
  have BK2' := am (hk.blk BK2.out NE2_8.out (by simp))
  clear BK2
  have BK2 := BK2'
  clear BK2'
  have BK5' := am (hk.blk BK5.out NE5_8.out (by simp))
  clear BK5
  have BK5 := BK5'
  clear BK5'
  clear HB HI
  have HB := am hb
  clear hb hk hI
  refine hK.out _ _ ⟨(blk_cell BK5.out 0).trans rfl, (blk_cell BK5.out 1).trans rfl⟩ (fun hHeld => ?_)
  clear hK K
  refine norm_ (a' := ?_) ?_ ?_
  rotate_left
  · show Act.put _ (some 14) _ = _
    simp only [Act.put, List.setIfInBounds_toArray, List.set_cons_zero, List.set_cons_succ, i64_w, i32_w]
    rfl
  have hcz2_0 : w8.cell? ⟨g2, 0, none⟩ = some (.int .i64 0) := (blk_cell BK2.out 0).trans rfl
  have hcz2_1 : w8.cell? ⟨g2, 1, none⟩ = some (.int .i64 0) := (blk_cell BK2.out 1).trans rfl
  have hfz2_0 := blk_frozen BK2.out 0
  have hfz2_1 := blk_frozen BK2.out 1
  refine last_ (i := 4) (N := none) #[true, true, true, true, true, false] rfl rfl (by kernel_rfl) (by decide) (fun K hK => ?_)
  refine stor_ (by rfl) rfl (w1 := ?_) ?_ ?_
  rotate_left
  · go_simp
    rfl
  refine hK.out _ _ ?_
  clear hK K
  refine norm_ (a' := ?_) ?_ ?_
  rotate_left
  · show Act.put _ none _ = _
    simp only [Act.put]
    rfl
  refine pure_ (i := 5) (N := some 3) (v := ?_) (a' := ?_) #[true, true, true, true, true, true] rfl rfl (by kernel_rfl) (fun _ _ _ h => h) (Or.inl ⟨by rfl, ?_⟩) ?_ ?_
  rotate_left
  · intro w'
    go_simp
    with_reducible rfl
  rotate_left
  · simp only [Act.put, List.setIfInBounds_toArray, List.set_cons_zero, List.set_cons_succ, i64_w, i32_w]
    rfl
  refine done_ (by kernel_rfl) ?_
  go_wp2
  refine bodyPost_ret (results_ct rfl _ _ g2 26 #[.int .i64 a1, .int .i64 a2] (0, 0) _ rfl (put2 BK2.out (.int .i64 a1) (.int .i64 a2)) Try.underlying26 rfl (by kernel_rfl)) rfl ?_
  exact ⟨rfl, below_set (below_set HB.out HG2.out) HG2.out⟩

end Go.Proofs.Ytaabfjfdalcceaa.E
