-- WRITTEN by xprint.py, a program of this session that drives the kit's printer: out of the translation. Lean checks it.
import Derived.Test.YtlbnhjeblknepaaGreatE0
import Derived.Test.YtlbnhjeblknepaaGreatE1
import Derived.Test.YtlbnhjeblknepaaGreatE49
import Derived.Test.YtlbnhjeblknepaaGreatWm
namespace Go.Proofs.YtlbnhjeblknepaaGreat.E
open Go.RowKit Go.Proofs.YtlbnhjeblknepaaGreatW.PrintWords Go.Proofs.YtlbnhjeblknepaaGreatW.PrintLast Go.Proofs.YtlbnhjeblknepaaGreatW.PrintMore
attribute [local go_sem] max2_int min2_int max_two min_two max_three min_three max_four min_four   -- for this text's walks alone
set_option linter.unusedVariables false
set_option linter.unusedSimpArgs false

-- OURS, BY HAND
/-! ### spec_DrawIsSet: function 74 -/
-- func spec.DrawIsSet
-- ext rounds=1 making=1
-- needs (*spec.l1Cur).next
-- needs (*spec.l1Cur).pick
-- needs (*spec.l1Cur).one
-- needs (*spec.l1Cur).among
-- needs (*spec.l1Cur).set
def spec_DrawIsSet.f (k : Nat) (l0 : List Int) : Option (List Int) := (spec_l1Cur_set.f k l0 0 0).bind fun a => some a.1
theorem spec_DrawIsSet.mono : ∀ a0 k, LeO (spec_DrawIsSet.f k a0) (spec_DrawIsSet.f (k + 1) a0) := by
  intro a0 k
  unfold spec_DrawIsSet.f
  exact LeO.bind (spec_l1Cur_set.mono _ _ _ _) (fun _ => LeO.refl _)
set_option maxHeartbeats 8000000 in
set_option maxRecDepth 100000 in
theorem spec_DrawIsSet.calls (k : Nat) (A0 : Option Addr) (c0 : Nat) (l0 : List Int) (r1 : List Int) (w : World) (hr0 : Kd.C (Kd.int .u8) w A0 l0.length l0) (hc0 : l0.length ≤ c0) (h : spec_DrawIsSet.f k l0 = some r1) :
    Calls Tryz.prog 74 #[.slice A0 l0.length c0] w fun e w' => ∃ v0_ : Value, e = .returned v0_ ∧ Kd.R (Kd.int .i64) 3 w' w.heap.size (fun _ => True) v0_ r1 ∧ Below w.heap.size w w' := by
  have HB := Aside0.mk (Below.refl w.heap.size w)
  have HR0 := Aside0.mk hr0
  clear hr0 hc0
  unfold spec_DrawIsSet.f at h
  obtain ⟨⟨a1, a2, a3⟩, hA1, h⟩ := Option.bind_eq_some_iff.1 h
  have HA1 := Aside0.mk hA1
  clear hA1
  obtain rfl := Option.some.inj h
  go_enter Tryz.func74, Tryz.ntmps74
  go_wp2_with (first | ((with_reducible refine gate_dst (N := 6) rfl ?_); refine box_event ?hg (N := 6) ?hd (cs := #[.slice A0 l0.length c0, .int .i64 0, .int .u64 0]) (t := 63) ?hr ?_; (case hd => rfl); (case hg => rfl); (case hr => first | (go_simp; done) | (go_simp; rfl)); intro gq hg w1 hbox hb; have HG := Aside0.mk (show w.heap.size ≤ gq by rw [hg]; exact below_size HB.out); have HI := Aside0.mk (show IsS63 w _ gq l0 0 0 from ⟨A0, c0, hbox, HG.out, HR0.out⟩); have HB' := Aside0.mk (below_step HB.out hb); clear HB; have HB := HB'; clear HB' hb hbox hg HG) | ((with_reducible refine gate_callee (f := 102) rfl ?_); refine goesL_ (some 8) rfl rfl Tryz.func102 (by kernel_rfl) rfl #[.pointer (some ⟨gq, 0, none⟩)] rfl (by (try simp only [List.map_toArray, List.map_cons, List.map_nil]); first | done | rfl) ?_; (with_reducible refine (spec_l1Cur_set.calls k gq l0 0 0 a1 a2 a3 w _ ?hI ?hB HA1.out).mono ?_); (case hI => exact HI.out); (case hB => exact HB.out); rintro e w2 ⟨vRs, rfl, hR, hI, hb, hk⟩; refine ⟨_, rfl, ?_⟩; have HRs := Aside0.mk (IsS63.apart hI (Kd.R_lower hR (below_size HB.out)) (by decide)); clear hR; clear HI HB; have HI := Aside0.mk hI; have HB := Aside0.mk hb; clear hI hb hk))
  first | go_ret | skip
  exact ⟨_, rfl, Kd.R_mono HRs.out (fun _ _ => trivial), HB.out⟩

end Go.Proofs.YtlbnhjeblknepaaGreat.E
