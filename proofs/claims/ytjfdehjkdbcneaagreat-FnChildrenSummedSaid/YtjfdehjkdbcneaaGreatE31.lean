-- WRITTEN by xprint.py, a program of this session that drives the kit's printer: out of the translation. Lean checks it.
import Derived.Test.YtjfdehjkdbcneaaGreatE0
import Derived.Test.YtjfdehjkdbcneaaGreatE1
import Derived.Test.YtjfdehjkdbcneaaGreatE25
import Derived.Test.YtjfdehjkdbcneaaGreatWm
namespace Go.Proofs.YtjfdehjkdbcneaaGreat.E
open Go.RowKit Go.Proofs.YtjfdehjkdbcneaaGreatW.PrintWords Go.Proofs.YtjfdehjkdbcneaaGreatW.PrintLast Go.Proofs.YtjfdehjkdbcneaaGreatW.PrintMore
attribute [local go_sem] max2_int min2_int max_two min_two max_three min_three max_four min_four   -- for this text's walks alone
set_option linter.unusedVariables false
set_option linter.unusedSimpArgs false

-- OURS, BY HAND
/-! ### spec_DrawLaterSet: function 25 -/
-- func spec.DrawLaterSet
-- ext rounds=1 making=1
-- needs (*spec.l1Cur).next
-- needs (*spec.l1Cur).pick
-- needs (*spec.l1Cur).one
-- needs (*spec.l1Cur).among
-- needs (*spec.l1Cur).set
def spec_DrawLaterSet.f (k : Nat) (l0 : List Int) : Option (List Int × Int) := (spec_l1Cur_one.f l0 0 0 8).bind fun a => if a.1 = true then ((spec_l1Cur_set.f k l0 a.2.1 a.2.2).bind fun b => (spec_l1Cur_among.f l0 b.2.1 b.2.2 ([(-21), (-20), 20, 21] : List Int)).bind fun c => some (b.1, c.1)) else ((spec_l1Cur_set.f k l0 a.2.1 a.2.2).bind fun b => (spec_l1Cur_pick.f l0 b.2.1 b.2.2 16).bind fun c => some (b.1, wrap64 (c.1 - 6)))
theorem spec_DrawLaterSet.mono : ∀ a0 k, LeO (spec_DrawLaterSet.f k a0) (spec_DrawLaterSet.f (k + 1) a0) := by
  intro a0 k
  unfold spec_DrawLaterSet.f
  refine LeO.bind (LeO.refl _) (fun a => ?_)
  by_cases h : a.1 = true
  · rw [if_pos h, if_pos h]
    exact LeO.bind (spec_l1Cur_set.mono _ _ _ _) (fun _ => LeO.refl _)
  · rw [if_neg h, if_neg h]
    exact LeO.bind (spec_l1Cur_set.mono _ _ _ _) (fun _ => LeO.refl _)
set_option maxHeartbeats 8000000 in
set_option maxRecDepth 100000 in
theorem spec_DrawLaterSet.calls (k : Nat) (A0 : Option Addr) (c0 : Nat) (l0 : List Int) (r1 : List Int) (r2 : Int) (w : World) (hr0 : Kd.C (Kd.int .u8) w A0 l0.length l0) (hc0 : l0.length ≤ c0) (h : spec_DrawLaterSet.f k l0 = some (r1, r2)) :
    Calls Tryz.prog 25 #[.slice A0 l0.length c0] w fun e w' => ∃ v0_ : Value, e = .returned (.tuple #[v0_, .int .i64 r2]) ∧ Kd.R (Kd.int .i64) 3 w' w.heap.size (fun _ => True) v0_ r1 ∧ Below w.heap.size w w' := by
  have HB := Aside0.mk (Below.refl w.heap.size w)
  have HR0 := Aside0.mk hr0
  clear hr0 hc0
  unfold spec_DrawLaterSet.f at h
  obtain ⟨⟨a1, a2, a3⟩, hA1, h⟩ := Option.bind_eq_some_iff.1 h
  have HA1 := Aside0.mk hA1
  clear hA1
  cases a1 with
  | true =>
    replace h : ((spec_l1Cur_set.f k l0 a2 a3).bind fun b => (spec_l1Cur_among.f l0 b.2.1 b.2.2 ([(-21), (-20), 20, 21] : List Int)).bind fun c => some (b.1, c.1)) = some (r1, r2) := (if_pos rfl).symm.trans h
    obtain ⟨⟨b1, b2, b3⟩, hA2, h⟩ := Option.bind_eq_some_iff.1 h
    have HA2 := Aside0.mk hA2
    clear hA2
    obtain ⟨⟨d1, d2, d3⟩, hA3, h⟩ := Option.bind_eq_some_iff.1 h
    have HA3 := Aside0.mk hA3
    clear hA3
    simp only [Option.some.injEq, Prod.mk.injEq] at h
    obtain ⟨rfl, rfl⟩ := h
    go_enter Tryz.func25, Tryz.ntmps25
    go_wp2_with (first | ((with_reducible refine gate_dst (N := 7) rfl ?_); refine box_event ?hg (N := 7) ?hd (cs := #[.slice A0 l0.length c0, .int .i64 0, .int .u64 0]) (t := 51) ?hr ?_; (case hd => rfl); (case hg => rfl); (case hr => first | (go_simp; done) | (go_simp; rfl)); intro gq hg w1 hbox hb; have HG := Aside0.mk (show w.heap.size ≤ gq by rw [hg]; exact below_size HB.out); have HI := Aside0.mk (show IsS51 w _ gq l0 0 0 from ⟨A0, c0, hbox, HG.out, HR0.out⟩); have HB' := Aside0.mk (below_step HB.out hb); clear HB; have HB := HB'; clear HB' hb hbox hg HG) | ((with_reducible refine gate_callee (f := 50) rfl ?_); refine goesL_ (some 9) rfl rfl Tryz.func50 (by kernel_rfl) rfl #[.pointer (some ⟨gq, 0, none⟩), .int .i64 8] rfl (by (try simp only [List.map_toArray, List.map_cons, List.map_nil]); first | done | rfl) ?_; (with_reducible refine (spec_l1Cur_one.calls gq l0 0 0 8 true a2 a3 w _ ?hI ?hB HA1.out).mono ?_); (case hI => exact HI.out); (case hB => exact HB.out); rintro e w2 ⟨rfl, hI, hb, hk⟩; refine ⟨_, rfl, ?_⟩; clear HI HB; have HI := Aside0.mk hI; have HB := Aside0.mk hb; clear hI hb hk) | ((with_reducible refine gate_callee (f := 51) rfl ?_); refine goesL_ (some 11) rfl rfl Tryz.func51 (by kernel_rfl) rfl #[.pointer (some ⟨gq, 0, none⟩)] rfl (by (try simp only [List.map_toArray, List.map_cons, List.map_nil]); first | done | rfl) ?_; (with_reducible refine (spec_l1Cur_set.calls k gq l0 a2 a3 b1 b2 b3 w _ ?hI ?hB HA2.out).mono ?_); (case hI => exact HI.out); (case hB => exact HB.out); rintro e w3 ⟨vRs, rfl, hR, hI, hb, hk⟩; refine ⟨_, rfl, ?_⟩; have HRs := Aside0.mk (IsS51.apart hI (Kd.R_lower hR (below_size HB.out)) (by decide)); clear hR; clear HI HB; have HI := Aside0.mk hI; have HB := Aside0.mk hb; clear hI hb hk) | ((with_reducible refine gate_dst (N := 13) rfl ?_); refine Kd.R_lit (Kd.int .i64) _ 3 ?hg (N := 13) ?hd (xs := ([(-21), (-20), 20, 21] : List Int)) (inner := [.int .i64 (-21), .int .i64 (-20), .int .i64 20, .int .i64 21]) (ok := fun _ => True) (okp := fun _ => True) ?hr ?hp (fun _ hk => hk) trivial (Below.refl _ _) (Nat.le_refl _) (by simp) ?_; (case hd => rfl); (case hg => rfl); (case hr => first | (go_simp; done) | (go_simp; rfl)); (case hp => exact (Reps.one (show Kd.M (Kd.int .i64) _ _ _ (-21) [.int .i64 (-21)] from rfl) (Reps.one (show Kd.M (Kd.int .i64) _ _ _ (-20) [.int .i64 (-20)] from rfl) (Reps.one (show Kd.M (Kd.int .i64) _ _ _ 20 [.int .i64 20] from rfl) (Reps.one (show Kd.M (Kd.int .i64) _ _ _ 21 [.int .i64 21] from rfl) (Reps.none _ _)))))); intro vq w4 ho hb hg_ hnew_; clear hg_ hnew_; have HRs' := Aside0.mk (Kd.R_below HRs.out hb); clear HRs; have HRs := HRs'; clear HRs'; have HLq := Aside0.mk ho; have HI' := Aside0.mk (IsS51.below HI.out hb); have HB' := Aside0.mk (below_step HB.out hb); clear HI HB; have HI := HI'; have HB := HB'; clear HI' HB' hb ho; obtain ⟨Aq, cq, eq⟩ := Kd.R_slice HLq.out; subst eq) | ((with_reducible refine gate_callee (f := 34) rfl ?_); refine goesL_ (some 14) rfl rfl Tryz.func34 (by kernel_rfl) rfl #[.pointer (some ⟨gq, 0, none⟩), .slice Aq ([(-21), (-20), 20, 21] : List Int).length cq] rfl (by (try simp only [List.map_toArray, List.map_cons, List.map_nil]); first | done | rfl) ?_; (with_reducible refine (spec_l1Cur_among.calls gq l0 b2 b3 Aq cq ([(-21), (-20), 20, 21] : List Int) d1 d2 d3 w _ ?hI ?hB (Kd.R_reads' HLq.out).2.2 (Kd.R_reads' HLq.out).2.1 (far_slice (IsS51.own_ne HI.out HLq.out (by decide))) HA3.out).mono ?_); (case hI => exact HI.out); (case hB => exact HB.out); rintro e w5 ⟨rfl, hI, hb, hk⟩; refine ⟨_, rfl, ?_⟩; have HRs' := Aside0.mk (Kd.R_keep HRs.out hk (fun k hk => hk.2)); clear HRs; have HRs := HRs'; clear HRs'; clear HI HB; have HI := Aside0.mk hI; have HB := Aside0.mk hb; clear hI hb hk))
    first | go_ret2 | skip
    exact ⟨_, rfl, Kd.R_mono HRs.out (fun _ _ => trivial), HB.out⟩
  | false =>
    replace h : ((spec_l1Cur_set.f k l0 a2 a3).bind fun b => (spec_l1Cur_pick.f l0 b.2.1 b.2.2 16).bind fun c => some (b.1, wrap64 (c.1 - 6))) = some (r1, r2) := (if_neg Bool.false_ne_true).symm.trans h
    obtain ⟨⟨b1, b2, b3⟩, hA2, h⟩ := Option.bind_eq_some_iff.1 h
    have HA2 := Aside0.mk hA2
    clear hA2
    obtain ⟨⟨d1, d2, d3⟩, hA3, h⟩ := Option.bind_eq_some_iff.1 h
    have HA3 := Aside0.mk hA3
    clear hA3
    simp only [Option.some.injEq, Prod.mk.injEq] at h
    obtain ⟨rfl, rfl⟩ := h
    go_enter Tryz.func25, Tryz.ntmps25
    go_wp2_with (first | ((with_reducible refine gate_dst (N := 7) rfl ?_); refine box_event ?hg (N := 7) ?hd (cs := #[.slice A0 l0.length c0, .int .i64 0, .int .u64 0]) (t := 51) ?hr ?_; (case hd => rfl); (case hg => rfl); (case hr => first | (go_simp; done) | (go_simp; rfl)); intro gq hg w1 hbox hb; have HG := Aside0.mk (show w.heap.size ≤ gq by rw [hg]; exact below_size HB.out); have HI := Aside0.mk (show IsS51 w _ gq l0 0 0 from ⟨A0, c0, hbox, HG.out, HR0.out⟩); have HB' := Aside0.mk (below_step HB.out hb); clear HB; have HB := HB'; clear HB' hb hbox hg HG) | ((with_reducible refine gate_callee (f := 50) rfl ?_); refine goesL_ (some 9) rfl rfl Tryz.func50 (by kernel_rfl) rfl #[.pointer (some ⟨gq, 0, none⟩), .int .i64 8] rfl (by (try simp only [List.map_toArray, List.map_cons, List.map_nil]); first | done | rfl) ?_; (with_reducible refine (spec_l1Cur_one.calls gq l0 0 0 8 false a2 a3 w _ ?hI ?hB HA1.out).mono ?_); (case hI => exact HI.out); (case hB => exact HB.out); rintro e w2 ⟨rfl, hI, hb, hk⟩; refine ⟨_, rfl, ?_⟩; clear HI HB; have HI := Aside0.mk hI; have HB := Aside0.mk hb; clear hI hb hk) | ((with_reducible refine gate_callee (f := 51) rfl ?_); refine goesL_ (some 16) rfl rfl Tryz.func51 (by kernel_rfl) rfl #[.pointer (some ⟨gq, 0, none⟩)] rfl (by (try simp only [List.map_toArray, List.map_cons, List.map_nil]); first | done | rfl) ?_; (with_reducible refine (spec_l1Cur_set.calls k gq l0 a2 a3 b1 b2 b3 w _ ?hI ?hB HA2.out).mono ?_); (case hI => exact HI.out); (case hB => exact HB.out); rintro e w3 ⟨vRs, rfl, hR, hI, hb, hk⟩; refine ⟨_, rfl, ?_⟩; have HRs := Aside0.mk (IsS51.apart hI (Kd.R_lower hR (below_size HB.out)) (by decide)); clear hR; clear HI HB; have HI := Aside0.mk hI; have HB := Aside0.mk hb; clear hI hb hk) | ((with_reducible refine gate_callee (f := 52) rfl ?_); refine goesL_ (some 18) rfl rfl Tryz.func52 (by kernel_rfl) rfl #[.pointer (some ⟨gq, 0, none⟩), .int .i64 16] rfl (by (try simp only [List.map_toArray, List.map_cons, List.map_nil]); first | done | rfl) ?_; (with_reducible refine (spec_l1Cur_pick.calls gq l0 b2 b3 16 d1 d2 d3 w _ ?hI ?hB HA3.out).mono ?_); (case hI => exact HI.out); (case hB => exact HB.out); rintro e w4 ⟨rfl, hI, hb, hk⟩; refine ⟨_, rfl, ?_⟩; have HRs' := Aside0.mk (Kd.R_keep HRs.out hk (fun k hk => hk.2)); clear HRs; have HRs := HRs'; clear HRs'; clear HI HB; have HI := Aside0.mk hI; have HB := Aside0.mk hb; clear hI hb hk))
    first | go_ret2 | skip
    exact ⟨_, rfl, Kd.R_mono HRs.out (fun _ _ => trivial), HB.out⟩

end Go.Proofs.YtjfdehjkdbcneaaGreat.E
