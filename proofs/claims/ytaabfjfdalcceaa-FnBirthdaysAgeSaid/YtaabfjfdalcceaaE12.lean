-- WRITTEN by xprint.py, a program of this session that drives the kit's printer: out of the translation. Lean checks it.
import Derived.Test.YtaabfjfdalcceaaE0
import Derived.Test.YtaabfjfdalcceaaE1
import Derived.Test.YtaabfjfdalcceaaE2
import Derived.Test.YtaabfjfdalcceaaWLast
import Derived.Test.YtaabfjfdalcceaaWWords
namespace Go.Proofs.Ytaabfjfdalcceaa.E
open Go.RowKit Go.Proofs.YtaabfjfdalcceaaW.PrintWords Go.Proofs.YtaabfjfdalcceaaW.PrintLast
set_option linter.unusedVariables false
set_option linter.unusedSimpArgs false

-- OURS, BY HAND
/-! ### spec_DrawBirthdaysBetween: function 23 -/
-- func spec.DrawBirthdaysBetween
-- ext rounds=1 making=1
-- needs (*spec.l1Cur).births
-- needs (*spec.l1Cur).date
-- needs (*spec.l1Cur).sureDate
-- needs (*spec.l1Cur).among
-- needs spec.DrawAgesOn
-- import Derived.WalkKit
-- import Derived.Deep.RegionWith
-- import Derived.Deep.RegionLaw
-- import Derived.IntWalk
-- import Derived.WalkSpells
-- import Derived.Deep.RegionHeld3
-- seat Ytaabfjfdalcceaa
theorem results_tcc {P : Program} {fn : Func} {q p p' : Tmp} {ty ty' : TypeId} (h : fn.results = #[.tmp q, .cell p ty, .cell p' ty']) (tmps : Array Value) (w : World) (g g' : Nat) (t t' : TypeId) (cs cs' : Array Value) (fr fr' : Nat × Nat) (d d' : TypeDesc)
    (hp : tmps.getD p undef = .pointer (some ⟨g, 0, none⟩)) (hg : w.heap[g]? = some (.cells cs t fr))
    (hu : P.underlying ty = some d) (hd : (match d with | .struct _ | .array _ _ => true | _ => false) = true) (hi : (P.info? ty).map (·.size) = some cs.size)
    (hp' : tmps.getD p' undef = .pointer (some ⟨g', 0, none⟩)) (hg' : w.heap[g']? = some (.cells cs' t' fr'))
    (hu' : P.underlying ty' = some d') (hd' : (match d' with | .struct _ | .array _ _ => true | _ => false) = true) (hi' : (P.info? ty').map (·.size) = some cs'.size) :
    (results fn tmps).run P w = .ok (.tuple #[tmps.getD q undef, .agg cs, .agg cs']) w := by
  have h1 : tmps[p]?.getD undef = .pointer (some ⟨g, 0, none⟩) := by simpa using hp
  have h2 : tmps[p']?.getD undef = .pointer (some ⟨g', 0, none⟩) := by simpa using hp'
  simp [results, h, h1, h2, asAddr, run_loadVar_row w g t ty cs fr d hg hu hd hi, run_loadVar_row w g' t' ty' cs' fr' d' hg' hu' hd' hi']
def spec_DrawBirthdaysBetween.f (k : Nat) (l0 : List Int) : Option (List S26 × Int × Int × Int × Int) := (spec_l1Cur_births.f k l0 0 0).bind fun a => (spec_l1Cur_date.f l0 a.2.1 a.2.2).bind fun b => (spec_l1Cur_date.f l0 b.2.2.1 b.2.2.2).bind fun c => some (a.1, b.1, b.2.1, c.1, c.2.1)
theorem spec_DrawBirthdaysBetween.mono : ∀ a0 k, LeO (spec_DrawBirthdaysBetween.f k a0) (spec_DrawBirthdaysBetween.f (k + 1) a0) := by
  intro a0 k
  unfold spec_DrawBirthdaysBetween.f
  exact LeO.bind (spec_l1Cur_births.mono _ _ _ _) (fun _ => LeO.refl _)
set_option maxHeartbeats 8000000 in
set_option maxRecDepth 100000 in
theorem spec_DrawBirthdaysBetween.calls (k : Nat) (A0 : Option Addr) (c0 : Nat) (l0 : List Int) (r1 : List S26) (r2 : Int) (r3 : Int) (r4 : Int) (r5 : Int) (w : World) (hr0 : Kd.C (Kd.int .u8) w A0 l0.length l0) (hc0 : l0.length ≤ c0) (h : spec_DrawBirthdaysBetween.f k l0 = some (r1, r2, r3, r4, r5)) :
    Calls Try.prog 23 #[.slice A0 l0.length c0] w fun e w' => ∃ v0_ : Value, e = .returned (.tuple #[v0_, .agg #[.int .i64 r2, .int .i64 r3], .agg #[.int .i64 r4, .int .i64 r5]]) ∧ Kd.R k26 26 w' w.heap.size (fun _ => True) v0_ r1 ∧ Below w.heap.size w w' := by
  have hu26 := Try.underlying26
  have hu66 := Try.underlying66
  have HB := am (Below.refl w.heap.size w)
  unfold spec_DrawBirthdaysBetween.f at h
  obtain ⟨⟨b1, b2, b3⟩, hA, H⟩ := Option.bind_eq_some_iff.1 h
  obtain ⟨⟨a1, a2, a3, a4⟩, hA2, H⟩ := Option.bind_eq_some_iff.1 H
  obtain ⟨⟨t1, t2, t3, t4⟩, hA3, H⟩ := Option.bind_eq_some_iff.1 H
  have HA := am hA
  have HA2 := am hA2
  have HA3 := am hA3
  simp only [Option.some.injEq, Prod.mk.injEq] at H
  obtain ⟨rfl, rfl, rfl, rfl, rfl⟩ := H
  have HR0 := am hr0
  clear hr0 hc0 h hA hA2 hA3
  go_enter Try.func23, Try.ntmps23
  go_wp2_with (first | ((with_reducible refine gate_dst (N := 3) rfl ?_); refine gX 3 #[.int .i64 0, .int .i64 0] 26 ?_; intro g3 hg w1 hbox hb; have HB' := am (below_step HB.out hb); have HG3 := am (show w.heap.size ≤ g3 by rw [hg]; exact below_size HB.out); clear HB; have HB := HB'; clear HB'; have BK3 := am hbox; clear hb hbox hg) | ((with_reducible refine gate_dst (N := 4) rfl ?_); refine gX 4 #[.int .i64 0, .int .i64 0] 26 ?_; intro g4 hg w2 hbox hb; have HB' := am (below_step HB.out hb); have HG4 := am (show w.heap.size ≤ g4 by rw [hg]; exact below_size HB.out); have BK3' := am (blk_below BK3.out hb); have NE3_4 := am (show g3 ≠ g4 by rw [hg]; exact Nat.ne_of_lt (blk_lt BK3.out)); clear HB; have HB := HB'; clear HB'; clear BK3; have BK3 := BK3'; clear BK3'; have BK4 := am hbox; clear hb hbox hg) | ((with_reducible refine gate_dst (N := 10) rfl ?_); refine gX 10 #[.slice A0 l0.length c0, .int .i64 0, .int .u64 0] 66 ?_; intro g10 hg w3 hbox hb; have HB' := am (below_step HB.out hb); have HG10 := am (show w.heap.size ≤ g10 by rw [hg]; exact below_size HB.out); have BK3' := am (blk_below BK3.out hb); have NE3_10 := am (show g3 ≠ g10 by rw [hg]; exact Nat.ne_of_lt (blk_lt BK3.out)); have BK4' := am (blk_below BK4.out hb); have NE4_10 := am (show g4 ≠ g10 by rw [hg]; exact Nat.ne_of_lt (blk_lt BK4.out)); clear HB; have HB := HB'; clear HB'; clear BK3; have BK3 := BK3'; clear BK3'; clear BK4; have BK4 := BK4'; clear BK4'; have BK10 := am hbox; clear hb hbox hg) | (go_at_call 49; (with_reducible refine (spec_l1Cur_births.calls k g10 l0 0 0 b1 b2 b3 w _ ?hI ?hB HA.out).mono ?_); (case hI => exact ⟨A0, c0, BK10.out, HG10.out, HR0.out⟩); (case hB => exact HB.out); have HB2 := HB; rintro e w4 ⟨v0, rfl, hR, hI, hb, hk⟩; have HB' := am hb; have BK3' := am (hk.blk BK3.out NE3_10.out (by simp)); have BK4' := am (hk.blk BK4.out NE4_10.out (by simp)); have HI' := am hI; clear HB; have HB := HB'; clear HB'; have HRR := am (R_past (R_past (IsS66.apart hI (Kd.R_lower hR (Nat.le_refl _)) (by decide)) (blk_lt BK3.out)) (blk_lt BK4.out)); have HLE := am (below_size HB2.out); clear BK3; have BK3 := BK3'; clear BK3'; clear BK4; have BK4 := BK4'; clear BK4'; (try clear HI); have HI := HI'; clear HI' hb hk hI; clear hR) | (go_at_call 50; (with_reducible refine (spec_l1Cur_date.calls g10 l0 b2 b3 a1 a2 a3 a4 w _ ?hI ?hB HA2.out).mono ?_); (case hI => exact HI.out); (case hB => exact HB.out); rintro e w5 ⟨rfl, hI, hb, hk⟩; have HB' := am hb; have BK3' := am (hk.blk BK3.out NE3_10.out (by simp)); have BK4' := am (hk.blk BK4.out NE4_10.out (by simp)); have HI' := am hI; clear HB; have HB := HB'; clear HB'; have HRK := am (Kd.R_keep HRR.out hk (fun k hk => hk.1.1.2)); clear HRR; have HRR := HRK; clear HRK; clear BK3; have BK3 := BK3'; clear BK3'; clear BK4; have BK4 := BK4'; clear BK4'; (try clear HI); have HI := HI'; clear HI' hb hk hI; skip) | ((with_reducible refine gate_dst (N := 7) rfl ?_); refine gX 7 #[.int .i64 0, .int .i64 0] 26 ?_; intro g7 hg w6 hbox hb; have HB' := am (below_step HB.out hb); have HG7 := am (show w.heap.size ≤ g7 by rw [hg]; exact below_size HB.out); have BK3' := am (blk_below BK3.out hb); have NE3_7 := am (show g3 ≠ g7 by rw [hg]; exact Nat.ne_of_lt (blk_lt BK3.out)); have BK4' := am (blk_below BK4.out hb); have NE4_7 := am (show g4 ≠ g7 by rw [hg]; exact Nat.ne_of_lt (blk_lt BK4.out)); clear HB; have HB := HB'; clear HB'; clear BK3; have BK3 := BK3'; clear BK3'; clear BK4; have BK4 := BK4'; clear BK4'; have BK7 := am hbox; have NE7_10 := am (show g7 ≠ g10 by rw [hg]; exact Nat.ne_of_gt HI.out.lt); have HI' := am (HI.out.below hb); clear HI; have HI := HI'; clear HI'; have HRK := am (Kd.R_mono (Kd.R_bound (Kd.R_below HRR.out hb)) (ok' := fun k => ((((True ∧ k ≠ g10) ∧ k ≠ g3) ∧ k ≠ g4)) ∧ True) (fun k hk => ⟨hk.1, trivial⟩)); have HR7 := am (Kd.R_mono (Kd.R_below (Kd.R_bound HRR.out) hb) (ok' := fun k => ((((True ∧ k ≠ g10) ∧ k ≠ g3) ∧ k ≠ g4)) ∧ k ≠ g7) (fun k hk => ⟨hk.1, by have := hk.2.2.1; rw [hg]; omega⟩)); clear HRR HRK; clear hb hbox hg; have hcz7_0 : w6.cell? ⟨g7, 0, none⟩ = some (.int .i64 0) := (blk_cell BK7.out 0).trans rfl; have hcz7_1 : w6.cell? ⟨g7, 1, none⟩ = some (.int .i64 0) := (blk_cell BK7.out 1).trans rfl; have hfz7_0 := blk_frozen BK7.out 0; have hfz7_1 := blk_frozen BK7.out 1))
  have BK7' := am (put2 BK7.out (.int .i64 a1) (.int .i64 a2))
  have BK3' := am (far2 BK3.out NE3_7.out (.int .i64 a1) (.int .i64 a2))
  have BK4' := am (far2 BK4.out NE4_7.out (.int .i64 a1) (.int .i64 a2))
  have HI' := am ((HI.out.far (p := ⟨g7, 0, none⟩) NE7_10.out.symm (.int .i64 a1)).far (p := ⟨g7, 1, none⟩) NE7_10.out.symm (.int .i64 a2))
  have HB' := am (below_set (j := 1) (v := .int .i64 a2) (below_set (j := 0) (v := .int .i64 a1) HB.out HG7.out) HG7.out)
  have HR' := am (Kd.R_far (p := ⟨g7, 1, none⟩) (Kd.R_far (p := ⟨g7, 0, none⟩) HR7.out (fun k hk => hk.2) (.int .i64 a1)) (fun k hk => hk.2) (.int .i64 a2))
  clear BK7 BK3 BK4 HI HB HR7 hcz7_0 hcz7_1 hfz7_0 hfz7_1
  generalize (w6.setCell ⟨g7, 0, none⟩ (.int .i64 a1)).setCell ⟨g7, 1, none⟩ (.int .i64 a2) = wA at BK7' BK3' BK4' HI' HB' HR' ⊢
  have BK7 := am (blk_drew BK7'.out)
  have BK3 := am (blk_drew BK3'.out)
  have BK4 := am (blk_drew BK4'.out)
  have HI := am (HI'.out.drew)
  have HB := am (below_drew1 HB'.out)
  have HR := am (Kd.R_drew HR'.out)
  clear BK7' BK3' BK4' HI' HB' HR'
  refine start_ (n := 7) (S := fun w' => w'.cell? ⟨g7, 0, none⟩ = some (.int .i64 a1) ∧ w'.cell? ⟨g7, 1, none⟩ = some (.int .i64 a2)) (ds := [5, 6]) #[false, false, false, false, false, false, false] (by kernel_rfl) rfl rfl ⟨(blk_cell BK7.out 0).trans rfl, (blk_cell BK7.out 1).trans rfl⟩ (fun hHeld => ?_)
  generalize wA.drew = w7 at BK3 BK4 BK7 HI HB HR hHeld ⊢
  refine pure_ (i := 0) (N := some 15) (v := ?_) (a' := ?_) #[true, false, false, false, false, false, false] rfl rfl (by kernel_rfl) (fun _ _ _ h => h) (Or.inl ⟨by rfl, ?_⟩) ?_ ?_
  rotate_left
  · intro w'
    go_simp
    with_reducible rfl
  rotate_left
  · simp only [Act.put, List.setIfInBounds_toArray, List.set_cons_zero, List.set_cons_succ, i64_w, i32_w]
    rfl
  refine take_ (i := 1) (N := some 16) (v := ?_) (a' := ?_) #[true, true, false, false, false, false, false] rfl rfl (by kernel_rfl) (fun _ _ _ h => h) (Or.inl ⟨by rfl, ?_⟩) hHeld ?_ ?_
  rotate_left
  · rintro w' ⟨s0, s1⟩
    go_simp
    with_reducible rfl
  rotate_left
  · simp only [Act.put, List.setIfInBounds_toArray, List.set_cons_zero, List.set_cons_succ, i64_w, i32_w]
    rfl
  refine pure_ (i := 2) (N := some 17) (v := ?_) (a' := ?_) #[true, true, true, false, false, false, false] rfl rfl (by kernel_rfl) (fun _ _ _ h => h) (Or.inl ⟨by rfl, ?_⟩) ?_ ?_
  rotate_left
  · intro w'
    go_simp
    with_reducible rfl
  rotate_left
  · simp only [Act.put, List.setIfInBounds_toArray, List.set_cons_zero, List.set_cons_succ, i64_w, i32_w]
    rfl
  refine one_ (i := 3) (N := some 18) #[true, true, true, true, false, false, false] rfl rfl (by kernel_rfl) (by decide) (fun K hK => ?_)
  refine goes_ Try.func50 (by kernel_rfl) rfl #[.pointer (some ⟨g10, 0, none⟩)] (by rfl) rfl rfl (by simp only [List.map_toArray, List.map_cons, List.map_nil]; rfl) ?_
  with_reducible refine (spec_l1Cur_date.calls g10 l0 a3 a4 t1 t2 t3 t4 w _ HI.out HB.out HA3.out).mono ?_
  rintro e w8 ⟨rfl, hI, hb, hk⟩
  refine ⟨_, rfl, ?_⟩
  have BK3' := am (hk.blk BK3.out NE3_10.out (by simp))
  clear BK3
  have BK3 := BK3'
  clear BK3'
  have BK4' := am (hk.blk BK4.out NE4_10.out (by simp))
  clear BK4
  have BK4 := BK4'
  clear BK4'
  have BK7' := am (hk.blk BK7.out NE7_10.out (by simp))
  clear BK7
  have BK7 := BK7'
  clear BK7'
  have HR' := am (Kd.R_keep HR.out hk (fun k hk => hk.1.1.1.2))
  clear HB HI HR
  have HR := HR'
  have HB := am hb
  clear hb hk hI HR'
  refine hK.out _ _ ⟨(blk_cell BK7.out 0).trans rfl, (blk_cell BK7.out 1).trans rfl⟩ (fun hHeld => ?_)
  clear hK K
  refine norm_ (a' := ?_) ?_ ?_
  rotate_left
  · show Act.put _ (some 18) _ = _
    simp only [Act.put, List.setIfInBounds_toArray, List.set_cons_zero, List.set_cons_succ, i64_w, i32_w]
    rfl
  refine pure_ (i := 4) (N := some 2) (v := ?_) (a' := ?_) #[true, true, true, true, true, false, false] rfl rfl (by kernel_rfl) (fun _ _ _ h => h) (Or.inl ⟨by rfl, ?_⟩) ?_ ?_
  rotate_left
  · intro w'
    go_simp
    with_reducible rfl
  rotate_left
  · simp only [Act.put, List.setIfInBounds_toArray, List.set_cons_zero, List.set_cons_succ, i64_w, i32_w]
    rfl
  have hcz3_0 : w8.cell? ⟨g3, 0, none⟩ = some (.int .i64 0) := (blk_cell BK3.out 0).trans rfl
  have hcz3_1 : w8.cell? ⟨g3, 1, none⟩ = some (.int .i64 0) := (blk_cell BK3.out 1).trans rfl
  have hfz3_0 := blk_frozen BK3.out 0
  have hfz3_1 := blk_frozen BK3.out 1
  have hne34 := NE3_4.out
  have hne43 := NE3_4.out.symm
  have hcz4_0 : w8.cell? ⟨g4, 0, none⟩ = some (.int .i64 0) := (blk_cell BK4.out 0).trans rfl
  have hcz4_1 : w8.cell? ⟨g4, 1, none⟩ = some (.int .i64 0) := (blk_cell BK4.out 1).trans rfl
  have hfz4_0 := blk_frozen BK4.out 0
  have hfz4_1 := blk_frozen BK4.out 1
  refine last_ (i := 5) (N := none) #[true, true, true, true, true, true, false] rfl rfl (by kernel_rfl) (by decide) (fun K hK => ?_)
  refine stor_ (by rfl) rfl (w1 := ?_) ?_ ?_
  rotate_left
  · go_simp
    rfl
  refine hK.out _ _ ?_
  clear hK K
  refine norm_ (a' := ?_) ?_ ?_
  rotate_left
  · show Act.put _ none _ = _
    simp only [Act.put]
    rfl
  refine last_ (i := 6) (N := none) #[true, true, true, true, true, true, true] rfl rfl (by kernel_rfl) (by decide) (fun K hK => ?_)
  refine stor_ (by rfl) rfl (w1 := ?_) ?_ ?_
  rotate_left
  · go_simp
    rfl
  refine hK.out _ _ ?_
  clear hK K
  refine norm_ (a' := ?_) ?_ ?_
  rotate_left
  · show Act.put _ none _ = _
    simp only [Act.put]
    rfl
  refine done_ (by kernel_rfl) ?_
  go_wp2
  refine bodyPost_ret (results_tcc rfl _ _ g3 g4 26 26 #[.int .i64 a1, .int .i64 a2] #[.int .i64 t1, .int .i64 t2] (0, 0) (0, 0) _ _ rfl (far2 (put2 BK3.out (.int .i64 a1) (.int .i64 a2)) NE3_4.out _ _) Try.underlying26 rfl (by kernel_rfl) rfl (put2 (far2 BK4.out NE3_4.out.symm _ _) _ _) Try.underlying26 rfl (by kernel_rfl)) rfl ?_
  exact ⟨_, rfl, R_to (Kd.R_far (Kd.R_far (Kd.R_far (Kd.R_far (Kd.R_lower HR.out HLE.out) (fun k hk => hk.1.1.2) _) (fun k hk => hk.1.1.2) _) (fun k hk => hk.1.2) _) (fun k hk => hk.1.2) _), below_set (below_set (below_set (below_set HB.out HG3.out) HG3.out) HG4.out) HG4.out⟩

end Go.Proofs.Ytaabfjfdalcceaa.E
