-- WRITTEN by xprint.py, a program of this session that drives the kit's printer: out of the translation. Lean checks it.
import Derived.Test.YtjfdehjkdbcneaaGreatE0
import Derived.Test.YtjfdehjkdbcneaaGreatE1
import Derived.Test.YtjfdehjkdbcneaaGreatE2
import Derived.Test.YtjfdehjkdbcneaaGreatWm
namespace Go.Proofs.YtjfdehjkdbcneaaGreat.E
open Go.RowKit Go.Proofs.YtjfdehjkdbcneaaGreatW.PrintWords Go.Proofs.YtjfdehjkdbcneaaGreatW.PrintLast Go.Proofs.YtjfdehjkdbcneaaGreatW.PrintMore
attribute [local go_sem] max2_int min2_int max_two min_two max_three min_three max_four min_four   -- for this text's walks alone
set_option linter.unusedVariables false
set_option linter.unusedSimpArgs false

-- OURS, BY HAND
/-! ### spec_DrawSetsApart: function 5 -/
-- func spec.DrawSetsApart
-- ext rounds=0 making=1
-- needs (*spec.l1Cur).next
-- needs (*spec.l1Cur).pick
-- needs (*spec.l1Cur).one
-- needs (*spec.l1Cur).among
-- needs (*spec.l1Cur).summed
def spec_DrawSetsApart.f (l0 : List Int) : Option (Int × Int × Int) := (spec_l1Cur_summed.f l0 0 0).bind fun a => (spec_l1Cur_among.f l0 a.2.2.1 a.2.2.2 ([0, 1, 1, 2, 3, 20, 21, (-1)] : List Int)).bind fun b => some (a.1, a.2.1, b.1)
set_option maxHeartbeats 8000000 in
set_option maxRecDepth 100000 in
theorem spec_DrawSetsApart.calls (A0 : Option Addr) (c0 : Nat) (l0 : List Int) (r1 : Int) (r2 : Int) (r3 : Int) (w : World) (hr0 : Kd.C (Kd.int .u8) w A0 l0.length l0) (hc0 : l0.length ≤ c0) (h : spec_DrawSetsApart.f l0 = some (r1, r2, r3)) :
    Calls Tryz.prog 5 #[.slice A0 l0.length c0] w fun e w' => e = .returned (.tuple #[.int .i64 r1, .int .i64 r2, .int .i64 r3]) ∧ Below w.heap.size w w' := by
  have HB := Aside0.mk (Below.refl w.heap.size w)
  have HR0 := Aside0.mk hr0
  clear hr0 hc0
  unfold spec_DrawSetsApart.f at h
  obtain ⟨⟨a1, a2, a3, a4⟩, hA1, h⟩ := Option.bind_eq_some_iff.1 h
  have HA1 := Aside0.mk hA1
  clear hA1
  obtain ⟨⟨b1, b2, b3⟩, hA2, h⟩ := Option.bind_eq_some_iff.1 h
  have HA2 := Aside0.mk hA2
  clear hA2
  simp only [Option.some.injEq, Prod.mk.injEq] at h
  obtain ⟨rfl, rfl, rfl⟩ := h
  go_enter Tryz.func5, Tryz.ntmps5
  go_wp2_with (first | ((with_reducible refine gate_dst (N := 10) rfl ?_); refine box_event ?hg (N := 10) ?hd (cs := #[.slice A0 l0.length c0, .int .i64 0, .int .u64 0]) (t := 51) ?hr ?_; (case hd => rfl); (case hg => rfl); (case hr => first | (go_simp; done) | (go_simp; rfl)); intro gq hg w1 hbox hb; have HG := Aside0.mk (show w.heap.size ≤ gq by rw [hg]; exact below_size HB.out); have HI := Aside0.mk (show IsS51 w _ gq l0 0 0 from ⟨A0, c0, hbox, HG.out, HR0.out⟩); have HB' := Aside0.mk (below_step HB.out hb); clear HB; have HB := HB'; clear HB' hb hbox hg HG) | ((with_reducible refine gate_callee (f := 33) rfl ?_); refine goesL_ (some 13) rfl rfl Tryz.func33 (by kernel_rfl) rfl #[.pointer (some ⟨gq, 0, none⟩)] rfl (by (try simp only [List.map_toArray, List.map_cons, List.map_nil]); first | done | rfl) ?_; (with_reducible refine (spec_l1Cur_summed.calls gq l0 0 0 a1 a2 a3 a4 w _ ?hI ?hB HA1.out).mono ?_); (case hI => exact HI.out); (case hB => exact HB.out); rintro e w2 ⟨rfl, hI, hb, hk⟩; refine ⟨_, rfl, ?_⟩; clear HI HB; have HI := Aside0.mk hI; have HB := Aside0.mk hb; clear hI hb hk) | ((with_reducible refine gate_dst (N := 19) rfl ?_); refine Kd.R_lit (Kd.int .i64) _ 3 ?hg (N := 19) ?hd (xs := ([0, 1, 1, 2, 3, 20, 21, (-1)] : List Int)) (inner := [.int .i64 0, .int .i64 1, .int .i64 1, .int .i64 2, .int .i64 3, .int .i64 20, .int .i64 21, .int .i64 (-1)]) (ok := fun _ => True) (okp := fun _ => True) ?hr ?hp (fun _ hk => hk) trivial (Below.refl _ _) (Nat.le_refl _) (by simp) ?_; (case hd => rfl); (case hg => rfl); (case hr => first | (go_simp; done) | (go_simp; rfl)); (case hp => exact (Reps.one (show Kd.M (Kd.int .i64) _ _ _ 0 [.int .i64 0] from rfl) (Reps.one (show Kd.M (Kd.int .i64) _ _ _ 1 [.int .i64 1] from rfl) (Reps.one (show Kd.M (Kd.int .i64) _ _ _ 1 [.int .i64 1] from rfl) (Reps.one (show Kd.M (Kd.int .i64) _ _ _ 2 [.int .i64 2] from rfl) (Reps.one (show Kd.M (Kd.int .i64) _ _ _ 3 [.int .i64 3] from rfl) (Reps.one (show Kd.M (Kd.int .i64) _ _ _ 20 [.int .i64 20] from rfl) (Reps.one (show Kd.M (Kd.int .i64) _ _ _ 21 [.int .i64 21] from rfl) (Reps.one (show Kd.M (Kd.int .i64) _ _ _ (-1) [.int .i64 (-1)] from rfl) (Reps.none _ _)))))))))); intro vq w3 ho hb hg_ hnew_; clear hg_ hnew_; have HLq := Aside0.mk ho; have HI' := Aside0.mk (IsS51.below HI.out hb); have HB' := Aside0.mk (below_step HB.out hb); clear HI HB; have HI := HI'; have HB := HB'; clear HI' HB' hb ho; obtain ⟨Aq, cq, eq⟩ := Kd.R_slice HLq.out; subst eq) | ((with_reducible refine gate_callee (f := 34) rfl ?_); refine goesL_ (some 20) rfl rfl Tryz.func34 (by kernel_rfl) rfl #[.pointer (some ⟨gq, 0, none⟩), .slice Aq ([0, 1, 1, 2, 3, 20, 21, (-1)] : List Int).length cq] rfl (by (try simp only [List.map_toArray, List.map_cons, List.map_nil]); first | done | rfl) ?_; (with_reducible refine (spec_l1Cur_among.calls gq l0 a3 a4 Aq cq ([0, 1, 1, 2, 3, 20, 21, (-1)] : List Int) b1 b2 b3 w _ ?hI ?hB (Kd.R_reads' HLq.out).2.2 (Kd.R_reads' HLq.out).2.1 (far_slice (IsS51.own_ne HI.out HLq.out (by decide))) HA2.out).mono ?_); (case hI => exact HI.out); (case hB => exact HB.out); rintro e w4 ⟨rfl, hI, hb, hk⟩; refine ⟨_, rfl, ?_⟩; clear HI HB; have HI := Aside0.mk hI; have HB := Aside0.mk hb; clear hI hb hk))
  first | go_ret3 | skip
  exact ⟨rfl, HB.out⟩

end Go.Proofs.YtjfdehjkdbcneaaGreat.E
