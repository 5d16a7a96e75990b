-- WRITTEN by xprint.py, a program of this session that drives the kit's printer: out of the translation. Lean checks it.
import Derived.Test.YtlbnhjeblknepaaGreatE0
import Derived.Test.YtlbnhjeblknepaaGreatE1
import Derived.Test.YtlbnhjeblknepaaGreatE2
import Derived.Test.YtlbnhjeblknepaaGreatEb
import Derived.Test.YtlbnhjeblknepaaGreatE25
import Derived.Test.YtlbnhjeblknepaaGreatE38
import Derived.Test.YtlbnhjeblknepaaGreatE39
import Derived.Test.YtlbnhjeblknepaaGreatWm
namespace Go.Proofs.YtlbnhjeblknepaaGreat.E
open Go.RowKit Go.Proofs.YtlbnhjeblknepaaGreatW.PrintWords Go.Proofs.YtlbnhjeblknepaaGreatW.PrintLast Go.Proofs.YtlbnhjeblknepaaGreatW.PrintMore
attribute [local go_sem] max2_int min2_int max_two min_two max_three min_three max_four min_four   -- for this text's walks alone
set_option linter.unusedVariables false
set_option linter.unusedSimpArgs false

-- OURS, BY HAND
/-! ### spec_DrawSetsOfBoth: function 30 -/
-- func spec.DrawSetsOfBoth
-- ext rounds=1 making=1
-- needs (*spec.l1Cur).next
-- needs (*spec.l1Cur).pick
-- needs (*spec.l1Cur).one
-- needs (*spec.l1Cur).among
-- needs (*spec.l1Cur).product
-- needs (*spec.l1Cur).summed
-- needs spec.l1Most
-- needs spec.l1Least
-- needs spec.siSets
-- needs spec.agSum
-- needs laws.qRows
def spec_DrawSetsOfBoth.f (k : Nat) (l0 : List Int) : Option (Int × Int × Int) := (spec_l1Cur_product.f k l0 0 0).bind fun a => (spec_l1Most.f 1 a.1).bind fun c1 => (spec_l1Least.f 4 c1).bind fun c => (spec_l1Most.f 1 a.2.1).bind fun p1 => (spec_l1Least.f 200000 p1).bind fun p => (spec_siSets.f c p).bind fun xs => if 0 < xs.length then ((spec_l1Cur_one.f l0 a.2.2.1 a.2.2.2 4).bind fun b => if b.1 = true then ((spec_l1Cur_summed.f l0 b.2.1 b.2.2).bind fun z => some (a.1, a.2.1, z.2.1)) else ((spec_l1Cur_pick.f l0 b.2.1 b.2.2 (xs.length : Int)).bind fun q => if 0 ≤ q.1 ∧ q.1 < (xs.length : Int) then ((spec_agSum.f k (rd_L2 xs q.1)).bind fun s => some (a.1, a.2.1, s)) else none)) else ((spec_l1Cur_summed.f l0 a.2.2.1 a.2.2.2).bind fun z => some (a.1, a.2.1, z.2.1))
theorem spec_DrawSetsOfBoth.mono : ∀ a0 k, LeO (spec_DrawSetsOfBoth.f k a0) (spec_DrawSetsOfBoth.f (k + 1) a0) := by
  intro a0 k
  unfold spec_DrawSetsOfBoth.f
  refine LeO.bind (spec_l1Cur_product.mono _ _ _ _) (fun a => LeO.bind (LeO.refl _) (fun c1 => LeO.bind (LeO.refl _) (fun c => LeO.bind (LeO.refl _) (fun p1 => LeO.bind (LeO.refl _) (fun p => LeO.bind (LeO.refl _) (fun xs => ?_))))))
  by_cases h : 0 < xs.length
  · rw [if_pos h, if_pos h]
    refine LeO.bind (LeO.refl _) (fun b => ?_)
    by_cases h2 : b.1 = true
    · rw [if_pos h2, if_pos h2]; exact LeO.refl _
    · rw [if_neg h2, if_neg h2]
      refine LeO.bind (LeO.refl _) (fun q => ?_)
      by_cases h3 : 0 ≤ q.1 ∧ q.1 < (xs.length : Int)
      · rw [if_pos h3, if_pos h3]; exact LeO.bind (spec_agSum.mono _ _) (fun _ => LeO.refl _)
      · rw [if_neg h3, if_neg h3]; exact LeO.refl _
  · rw [if_neg h, if_neg h]; exact LeO.refl _
set_option maxHeartbeats 8000000 in
set_option maxRecDepth 100000 in
theorem spec_DrawSetsOfBoth.calls (k : Nat) (A0 : Option Addr) (c0 : Nat) (l0 : List Int) (r1 : Int) (r2 : Int) (r3 : Int) (w : World) (hr0 : Kd.C (Kd.int .u8) w A0 l0.length l0) (hc0 : l0.length ≤ c0) (h : spec_DrawSetsOfBoth.f k l0 = some (r1, r2, r3)) :
    Calls Tryz.prog 30 #[.slice A0 l0.length c0] w fun e w' => e = .returned (.tuple #[.int .i64 r1, .int .i64 r2, .int .i64 r3]) ∧ Below w.heap.size w w' := by
  have HB := Aside0.mk (Below.refl w.heap.size w)
  have HR0 := Aside0.mk hr0
  clear hr0 hc0
  unfold spec_DrawSetsOfBoth.f at h
  obtain ⟨⟨a1, a2, a3, a4⟩, hA1, h⟩ := Option.bind_eq_some_iff.1 h
  have HA1 := Aside0.mk hA1
  clear hA1
  obtain ⟨c1, hA2, h⟩ := Option.bind_eq_some_iff.1 h
  have HA2 := Aside0.mk hA2
  clear hA2
  obtain ⟨c, hA3, h⟩ := Option.bind_eq_some_iff.1 h
  have HA3 := Aside0.mk hA3
  clear hA3
  obtain ⟨p1, hA4, h⟩ := Option.bind_eq_some_iff.1 h
  have HA4 := Aside0.mk hA4
  clear hA4
  obtain ⟨p, hA5, h⟩ := Option.bind_eq_some_iff.1 h
  have HA5 := Aside0.mk hA5
  clear hA5
  obtain ⟨xs, hA6, h⟩ := Option.bind_eq_some_iff.1 h
  have HA6 := Aside0.mk hA6
  clear hA6
  by_cases hp : 0 < xs.length
  · have hl : decide ((xs.length : Int) > 0) = true := decide_eq_true (by omega)
    rw [if_pos hp] at h
    obtain ⟨⟨b1, b2, b3⟩, hA7, h⟩ := Option.bind_eq_some_iff.1 h
    have HA7 := Aside0.mk hA7
    clear hA7
    cases b1 with
    | true =>
      replace h := (if_pos (rfl : true = true)).symm.trans h
      obtain ⟨⟨z1, z2, z3, z4⟩, hA8, h⟩ := Option.bind_eq_some_iff.1 h
      have HA8 := Aside0.mk hA8
      clear hA8
      simp only [Option.some.injEq, Prod.mk.injEq] at h
      obtain ⟨rfl, rfl, rfl⟩ := h
      go_enter Tryz.func30, Tryz.ntmps30
      go_wp2_with (first | ((with_reducible refine gate_dst (N := 13) rfl ?_); refine box_event ?hg (N := 13) ?hd (cs := #[.slice A0 l0.length c0, .int .i64 0, .int .u64 0]) (t := 63) ?hr ?_; (case hd => rfl); (case hg => rfl); (case hr => first | (go_simp; done) | (go_simp; rfl)); intro gq hg w1 hbox hb; have HG := Aside0.mk (show w.heap.size ≤ gq by rw [hg]; exact below_size HB.out); have HI := Aside0.mk (show IsS63 w _ gq l0 0 0 from ⟨A0, c0, hbox, HG.out, HR0.out⟩); have HB' := Aside0.mk (below_step HB.out hb); clear HB; have HB := HB'; clear HB' hb hbox hg HG) | ((with_reducible refine gate_callee (f := 62) rfl ?_); refine goesL_ (some 16) rfl rfl Tryz.func62 (by kernel_rfl) rfl #[.pointer (some ⟨gq, 0, none⟩)] rfl (by (try simp only [List.map_toArray, List.map_cons, List.map_nil]); first | done | rfl) ?_; (with_reducible refine (spec_l1Cur_product.calls k gq l0 0 0 a1 a2 a3 a4 w _ ?hI ?hB HA1.out).mono ?_); (case hI => exact HI.out); (case hB => exact HB.out); rintro e w2 ⟨rfl, hI, hb, hk⟩; refine ⟨_, rfl, ?_⟩; clear HI HB; have HI := Aside0.mk hI; have HB := Aside0.mk hb; clear hI hb hk) | ((with_reducible refine gate_callee (f := 64) rfl ?_); refine goesL_ (some 20) rfl rfl Tryz.func64 (by kernel_rfl) rfl #[.int .i64 1, .int .i64 a1] rfl (by (try simp only [List.map_toArray, List.map_cons, List.map_nil]); first | done | rfl) ?_; (with_reducible refine (spec_l1Most.calls 1 a1 c1 _ HA2.out).mono ?_); rintro e w3 ⟨rfl, hd⟩; refine ⟨_, rfl, ?_⟩; have hb := hd.below; clear hd; have HI' := Aside0.mk (IsS63.below HI.out hb); have HB' := Aside0.mk (below_step HB.out hb); clear HI HB; have HI := HI'; have HB := HB'; clear HI' HB' hb) | ((with_reducible refine gate_callee (f := 63) rfl ?_); refine goesL_ (some 21) rfl rfl Tryz.func63 (by kernel_rfl) rfl #[.int .i64 4, .int .i64 c1] rfl (by (try simp only [List.map_toArray, List.map_cons, List.map_nil]); first | done | rfl) ?_; (with_reducible refine (spec_l1Least.calls 4 c1 c _ HA3.out).mono ?_); rintro e w4 ⟨rfl, hd⟩; refine ⟨_, rfl, ?_⟩; have hb := hd.below; clear hd; have HI' := Aside0.mk (IsS63.below HI.out hb); have HB' := Aside0.mk (below_step HB.out hb); clear HI HB; have HI := HI'; have HB := HB'; clear HI' HB' hb) | ((with_reducible refine gate_callee (f := 64) rfl ?_); refine goesL_ (some 23) rfl rfl Tryz.func64 (by kernel_rfl) rfl #[.int .i64 1, .int .i64 a2] rfl (by (try simp only [List.map_toArray, List.map_cons, List.map_nil]); first | done | rfl) ?_; (with_reducible refine (spec_l1Most.calls 1 a2 p1 _ HA4.out).mono ?_); rintro e w5 ⟨rfl, hd⟩; refine ⟨_, rfl, ?_⟩; have hb := hd.below; clear hd; have HI' := Aside0.mk (IsS63.below HI.out hb); have HB' := Aside0.mk (below_step HB.out hb); clear HI HB; have HI := HI'; have HB := HB'; clear HI' HB' hb) | ((with_reducible refine gate_callee (f := 63) rfl ?_); refine goesL_ (some 24) rfl rfl Tryz.func63 (by kernel_rfl) rfl #[.int .i64 200000, .int .i64 p1] rfl (by (try simp only [List.map_toArray, List.map_cons, List.map_nil]); first | done | rfl) ?_; (with_reducible refine (spec_l1Least.calls 200000 p1 p _ HA5.out).mono ?_); rintro e w6 ⟨rfl, hd⟩; refine ⟨_, rfl, ?_⟩; have hb := hd.below; clear hd; have HI' := Aside0.mk (IsS63.below HI.out hb); have HB' := Aside0.mk (below_step HB.out hb); clear HI HB; have HI := HI'; have HB := HB'; clear HI' HB' hb) | ((with_reducible refine gate_callee (f := 47) rfl ?_); refine goesL_ (some 25) rfl rfl Tryz.func47 (by kernel_rfl) rfl #[.int .i64 c, .int .i64 p] rfl (by (try simp only [List.map_toArray, List.map_cons, List.map_nil]); first | done | rfl) ?_; (with_reducible refine (spec_siSets.calls c p xs _ HA6.out).mono ?_); rintro e w7 ⟨vX, rfl, hS, hb⟩; refine ⟨_, rfl, ?_⟩; have HI' := Aside0.mk (IsS63.below HI.out hb); have HB' := Aside0.mk (below_step HB.out hb); have HX := Aside0.mk (IsS63.apart HI'.out (Kd.R_lower (Kd.S_R hS) (below_size HB.out)) (by decide)); clear hS; obtain ⟨AX, cX, eX⟩ := Kd.R_slice HX.out; subst eX; clear HI HB; have HI := HI'; have HB := HB'; clear HI' HB' hb) | ((with_reducible refine gate_callee (f := 65) rfl ?_); (try (refine gate_guard (by rfl) ?_)); refine goesL_ (some 31) rfl rfl Tryz.func65 (by kernel_rfl) rfl #[.pointer (some ⟨gq, 0, none⟩), .int .i64 4] rfl (by (try simp only [List.map_toArray, List.map_cons, List.map_nil]); first | done | rfl) ?_; (with_reducible refine (spec_l1Cur_one.calls gq l0 a3 a4 4 true b2 b3 w _ ?hI ?hB HA7.out).mono ?_); (case hI => exact HI.out); (case hB => exact HB.out); rintro e w8 ⟨rfl, hI, hb, hk⟩; refine ⟨_, rfl, ?_⟩; have HX' := Aside0.mk (Kd.R_keep HX.out hk (fun k hk => hk.2)); clear HX; have HX := HX'; clear HX'; clear HI HB; have HI := Aside0.mk hI; have HB := Aside0.mk hb; clear hI hb hk) | ((with_reducible refine gate_callee (f := 68) rfl ?_); refine goesL_ (some 46) rfl rfl Tryz.func68 (by kernel_rfl) rfl #[.pointer (some ⟨gq, 0, none⟩)] rfl (by (try simp only [List.map_toArray, List.map_cons, List.map_nil]); first | done | rfl) ?_; (with_reducible refine (spec_l1Cur_summed.calls gq l0 b2 b3 z1 z2 z3 z4 w _ ?hI ?hB HA8.out).mono ?_); (case hI => exact HI.out); (case hB => exact HB.out); rintro e w9 ⟨rfl, hI, hb, hk⟩; refine ⟨_, rfl, ?_⟩; have HX' := Aside0.mk (Kd.R_keep HX.out hk (fun k hk => hk.2)); clear HX; have HX := HX'; clear HX'; clear HI HB; have HI := Aside0.mk hI; have HB := Aside0.mk hb; clear hI hb hk))
      first | go_ret3 | skip
      exact ⟨rfl, HB.out⟩
    | false =>
      replace h := (if_neg Bool.false_ne_true).symm.trans h
      obtain ⟨⟨q1, q2, q3⟩, hA8, h⟩ := Option.bind_eq_some_iff.1 h
      have HA8 := Aside0.mk hA8
      clear hA8
      by_cases hq : 0 ≤ q1 ∧ q1 < (xs.length : Int)
      · replace h := (if_pos hq).symm.trans h
        have hq0 := hq.1
        have hq1 := hq.2
        obtain ⟨s, hA9, h⟩ := Option.bind_eq_some_iff.1 h
        have HA9 := Aside0.mk hA9
        clear hA9
        simp only [Option.some.injEq, Prod.mk.injEq] at h
        obtain ⟨rfl, rfl, rfl⟩ := h
        go_enter Tryz.func30, Tryz.ntmps30
        go_wp2_with (first | ((with_reducible refine gate_dst (N := 13) rfl ?_); refine box_event ?hg (N := 13) ?hd (cs := #[.slice A0 l0.length c0, .int .i64 0, .int .u64 0]) (t := 63) ?hr ?_; (case hd => rfl); (case hg => rfl); (case hr => first | (go_simp; done) | (go_simp; rfl)); intro gq hg w1 hbox hb; have HG := Aside0.mk (show w.heap.size ≤ gq by rw [hg]; exact below_size HB.out); have HI := Aside0.mk (show IsS63 w _ gq l0 0 0 from ⟨A0, c0, hbox, HG.out, HR0.out⟩); have HB' := Aside0.mk (below_step HB.out hb); clear HB; have HB := HB'; clear HB' hb hbox hg HG) | ((with_reducible refine gate_callee (f := 62) rfl ?_); refine goesL_ (some 16) rfl rfl Tryz.func62 (by kernel_rfl) rfl #[.pointer (some ⟨gq, 0, none⟩)] rfl (by (try simp only [List.map_toArray, List.map_cons, List.map_nil]); first | done | rfl) ?_; (with_reducible refine (spec_l1Cur_product.calls k gq l0 0 0 a1 a2 a3 a4 w _ ?hI ?hB HA1.out).mono ?_); (case hI => exact HI.out); (case hB => exact HB.out); rintro e w2 ⟨rfl, hI, hb, hk⟩; refine ⟨_, rfl, ?_⟩; clear HI HB; have HI := Aside0.mk hI; have HB := Aside0.mk hb; clear hI hb hk) | ((with_reducible refine gate_callee (f := 64) rfl ?_); refine goesL_ (some 20) rfl rfl Tryz.func64 (by kernel_rfl) rfl #[.int .i64 1, .int .i64 a1] rfl (by (try simp only [List.map_toArray, List.map_cons, List.map_nil]); first | done | rfl) ?_; (with_reducible refine (spec_l1Most.calls 1 a1 c1 _ HA2.out).mono ?_); rintro e w3 ⟨rfl, hd⟩; refine ⟨_, rfl, ?_⟩; have hb := hd.below; clear hd; have HI' := Aside0.mk (IsS63.below HI.out hb); have HB' := Aside0.mk (below_step HB.out hb); clear HI HB; have HI := HI'; have HB := HB'; clear HI' HB' hb) | ((with_reducible refine gate_callee (f := 63) rfl ?_); refine goesL_ (some 21) rfl rfl Tryz.func63 (by kernel_rfl) rfl #[.int .i64 4, .int .i64 c1] rfl (by (try simp only [List.map_toArray, List.map_cons, List.map_nil]); first | done | rfl) ?_; (with_reducible refine (spec_l1Least.calls 4 c1 c _ HA3.out).mono ?_); rintro e w4 ⟨rfl, hd⟩; refine ⟨_, rfl, ?_⟩; have hb := hd.below; clear hd; have HI' := Aside0.mk (IsS63.below HI.out hb); have HB' := Aside0.mk (below_step HB.out hb); clear HI HB; have HI := HI'; have HB := HB'; clear HI' HB' hb) | ((with_reducible refine gate_callee (f := 64) rfl ?_); refine goesL_ (some 23) rfl rfl Tryz.func64 (by kernel_rfl) rfl #[.int .i64 1, .int .i64 a2] rfl (by (try simp only [List.map_toArray, List.map_cons, List.map_nil]); first | done | rfl) ?_; (with_reducible refine (spec_l1Most.calls 1 a2 p1 _ HA4.out).mono ?_); rintro e w5 ⟨rfl, hd⟩; refine ⟨_, rfl, ?_⟩; have hb := hd.below; clear hd; have HI' := Aside0.mk (IsS63.below HI.out hb); have HB' := Aside0.mk (below_step HB.out hb); clear HI HB; have HI := HI'; have HB := HB'; clear HI' HB' hb) | ((with_reducible refine gate_callee (f := 63) rfl ?_); refine goesL_ (some 24) rfl rfl Tryz.func63 (by kernel_rfl) rfl #[.int .i64 200000, .int .i64 p1] rfl (by (try simp only [List.map_toArray, List.map_cons, List.map_nil]); first | done | rfl) ?_; (with_reducible refine (spec_l1Least.calls 200000 p1 p _ HA5.out).mono ?_); rintro e w6 ⟨rfl, hd⟩; refine ⟨_, rfl, ?_⟩; have hb := hd.below; clear hd; have HI' := Aside0.mk (IsS63.below HI.out hb); have HB' := Aside0.mk (below_step HB.out hb); clear HI HB; have HI := HI'; have HB := HB'; clear HI' HB' hb) | ((with_reducible refine gate_callee (f := 47) rfl ?_); refine goesL_ (some 25) rfl rfl Tryz.func47 (by kernel_rfl) rfl #[.int .i64 c, .int .i64 p] rfl (by (try simp only [List.map_toArray, List.map_cons, List.map_nil]); first | done | rfl) ?_; (with_reducible refine (spec_siSets.calls c p xs _ HA6.out).mono ?_); rintro e w7 ⟨vX, rfl, hS, hb⟩; refine ⟨_, rfl, ?_⟩; have HI' := Aside0.mk (IsS63.below HI.out hb); have HB' := Aside0.mk (below_step HB.out hb); have HX := Aside0.mk (IsS63.apart HI'.out (Kd.R_lower (Kd.S_R hS) (below_size HB.out)) (by decide)); clear hS; obtain ⟨AX, cX, eX⟩ := Kd.R_slice HX.out; subst eX; clear HI HB; have HI := HI'; have HB := HB'; clear HI' HB' hb) | ((with_reducible refine gate_callee (f := 65) rfl ?_); (try (refine gate_guard (by rfl) ?_)); refine goesL_ (some 31) rfl rfl Tryz.func65 (by kernel_rfl) rfl #[.pointer (some ⟨gq, 0, none⟩), .int .i64 4] rfl (by (try simp only [List.map_toArray, List.map_cons, List.map_nil]); first | done | rfl) ?_; (with_reducible refine (spec_l1Cur_one.calls gq l0 a3 a4 4 false b2 b3 w _ ?hI ?hB HA7.out).mono ?_); (case hI => exact HI.out); (case hB => exact HB.out); rintro e w8 ⟨rfl, hI, hb, hk⟩; refine ⟨_, rfl, ?_⟩; have HX' := Aside0.mk (Kd.R_keep HX.out hk (fun k hk => hk.2)); clear HX; have HX := HX'; clear HX'; clear HI HB; have HI := Aside0.mk hI; have HB := Aside0.mk hb; clear hI hb hk) | ((with_reducible refine gate_callee (f := 67) rfl ?_); refine goesL_ (some 40) rfl rfl Tryz.func67 (by kernel_rfl) rfl #[.pointer (some ⟨gq, 0, none⟩), .int .i64 (xs.length : Int)] rfl (by (try simp only [List.map_toArray, List.map_cons, List.map_nil]); first | done | rfl) ?_; (with_reducible refine (spec_l1Cur_pick.calls gq l0 b2 b3 (xs.length : Int) q1 q2 q3 w _ ?hI ?hB HA8.out).mono ?_); (case hI => exact HI.out); (case hB => exact HB.out); rintro e w9 ⟨rfl, hI, hb, hk⟩; refine ⟨_, rfl, ?_⟩; have HX' := Aside0.mk (Kd.R_keep HX.out hk (fun k hk => hk.2)); clear HX; have HX := HX'; clear HX'; clear HI HB; have HI := Aside0.mk hI; have HB := Aside0.mk hb; clear hI hb hk; obtain ⟨hx1, hx2, hx3⟩ := Kd.R_reads' HX.out; obtain ⟨ad, Ae, ce, hA, hcell, hce, hCe⟩ := at_L2 hx3 q1 hq0 hq1; have HCE := Aside0.mk hCe; have HLE := Aside0.mk hce; subst hA; clear hx1 hx2 hx3 hCe hce) | ((with_reducible refine gate_callee (f := 66) rfl ?_); refine goesL_ (some 43) rfl rfl Tryz.func66 (by kernel_rfl) rfl #[.slice Ae (rd_L2 xs q1).length ce] rfl (by (try simp only [List.map_toArray, List.map_cons, List.map_nil]); first | done | rfl) ?_; (with_reducible refine (spec_agSum.calls k Ae ce (rd_L2 xs q1) s _ HCE.out HLE.out HA9.out).mono ?_); rintro e w10 ⟨rfl, hd⟩; refine ⟨_, rfl, ?_⟩; have hb := hd.below; clear hd; have HI' := Aside0.mk (IsS63.below HI.out hb); have HB' := Aside0.mk (below_step HB.out hb); clear HI HB; have HI := HI'; have HB := HB'; clear HI' HB' hb))
        first | go_ret3 | skip
        exact ⟨rfl, HB.out⟩
      · exact absurd ((if_neg hq).symm.trans h) (by simp)
  · have hl : decide ((xs.length : Int) > 0) = false := decide_eq_false (by omega)
    rw [if_neg hp] at h
    obtain ⟨⟨z1, z2, z3, z4⟩, hA8, h⟩ := Option.bind_eq_some_iff.1 h
    have HA8 := Aside0.mk hA8
    clear hA8
    simp only [Option.some.injEq, Prod.mk.injEq] at h
    obtain ⟨rfl, rfl, rfl⟩ := h
    go_enter Tryz.func30, Tryz.ntmps30
    go_wp2_with (first | ((with_reducible refine gate_dst (N := 13) rfl ?_); refine box_event ?hg (N := 13) ?hd (cs := #[.slice A0 l0.length c0, .int .i64 0, .int .u64 0]) (t := 63) ?hr ?_; (case hd => rfl); (case hg => rfl); (case hr => first | (go_simp; done) | (go_simp; rfl)); intro gq hg w1 hbox hb; have HG := Aside0.mk (show w.heap.size ≤ gq by rw [hg]; exact below_size HB.out); have HI := Aside0.mk (show IsS63 w _ gq l0 0 0 from ⟨A0, c0, hbox, HG.out, HR0.out⟩); have HB' := Aside0.mk (below_step HB.out hb); clear HB; have HB := HB'; clear HB' hb hbox hg HG) | ((with_reducible refine gate_callee (f := 62) rfl ?_); refine goesL_ (some 16) rfl rfl Tryz.func62 (by kernel_rfl) rfl #[.pointer (some ⟨gq, 0, none⟩)] rfl (by (try simp only [List.map_toArray, List.map_cons, List.map_nil]); first | done | rfl) ?_; (with_reducible refine (spec_l1Cur_product.calls k gq l0 0 0 a1 a2 a3 a4 w _ ?hI ?hB HA1.out).mono ?_); (case hI => exact HI.out); (case hB => exact HB.out); rintro e w2 ⟨rfl, hI, hb, hk⟩; refine ⟨_, rfl, ?_⟩; clear HI HB; have HI := Aside0.mk hI; have HB := Aside0.mk hb; clear hI hb hk) | ((with_reducible refine gate_callee (f := 64) rfl ?_); refine goesL_ (some 20) rfl rfl Tryz.func64 (by kernel_rfl) rfl #[.int .i64 1, .int .i64 a1] rfl (by (try simp only [List.map_toArray, List.map_cons, List.map_nil]); first | done | rfl) ?_; (with_reducible refine (spec_l1Most.calls 1 a1 c1 _ HA2.out).mono ?_); rintro e w3 ⟨rfl, hd⟩; refine ⟨_, rfl, ?_⟩; have hb := hd.below; clear hd; have HI' := Aside0.mk (IsS63.below HI.out hb); have HB' := Aside0.mk (below_step HB.out hb); clear HI HB; have HI := HI'; have HB := HB'; clear HI' HB' hb) | ((with_reducible refine gate_callee (f := 63) rfl ?_); refine goesL_ (some 21) rfl rfl Tryz.func63 (by kernel_rfl) rfl #[.int .i64 4, .int .i64 c1] rfl (by (try simp only [List.map_toArray, List.map_cons, List.map_nil]); first | done | rfl) ?_; (with_reducible refine (spec_l1Least.calls 4 c1 c _ HA3.out).mono ?_); rintro e w4 ⟨rfl, hd⟩; refine ⟨_, rfl, ?_⟩; have hb := hd.below; clear hd; have HI' := Aside0.mk (IsS63.below HI.out hb); have HB' := Aside0.mk (below_step HB.out hb); clear HI HB; have HI := HI'; have HB := HB'; clear HI' HB' hb) | ((with_reducible refine gate_callee (f := 64) rfl ?_); refine goesL_ (some 23) rfl rfl Tryz.func64 (by kernel_rfl) rfl #[.int .i64 1, .int .i64 a2] rfl (by (try simp only [List.map_toArray, List.map_cons, List.map_nil]); first | done | rfl) ?_; (with_reducible refine (spec_l1Most.calls 1 a2 p1 _ HA4.out).mono ?_); rintro e w5 ⟨rfl, hd⟩; refine ⟨_, rfl, ?_⟩; have hb := hd.below; clear hd; have HI' := Aside0.mk (IsS63.below HI.out hb); have HB' := Aside0.mk (below_step HB.out hb); clear HI HB; have HI := HI'; have HB := HB'; clear HI' HB' hb) | ((with_reducible refine gate_callee (f := 63) rfl ?_); refine goesL_ (some 24) rfl rfl Tryz.func63 (by kernel_rfl) rfl #[.int .i64 200000, .int .i64 p1] rfl (by (try simp only [List.map_toArray, List.map_cons, List.map_nil]); first | done | rfl) ?_; (with_reducible refine (spec_l1Least.calls 200000 p1 p _ HA5.out).mono ?_); rintro e w6 ⟨rfl, hd⟩; refine ⟨_, rfl, ?_⟩; have hb := hd.below; clear hd; have HI' := Aside0.mk (IsS63.below HI.out hb); have HB' := Aside0.mk (below_step HB.out hb); clear HI HB; have HI := HI'; have HB := HB'; clear HI' HB' hb) | ((with_reducible refine gate_callee (f := 47) rfl ?_); refine goesL_ (some 25) rfl rfl Tryz.func47 (by kernel_rfl) rfl #[.int .i64 c, .int .i64 p] rfl (by (try simp only [List.map_toArray, List.map_cons, List.map_nil]); first | done | rfl) ?_; (with_reducible refine (spec_siSets.calls c p xs _ HA6.out).mono ?_); rintro e w7 ⟨vX, rfl, hS, hb⟩; refine ⟨_, rfl, ?_⟩; have HI' := Aside0.mk (IsS63.below HI.out hb); have HB' := Aside0.mk (below_step HB.out hb); have HX := Aside0.mk (IsS63.apart HI'.out (Kd.R_lower (Kd.S_R hS) (below_size HB.out)) (by decide)); clear hS; obtain ⟨AX, cX, eX⟩ := Kd.R_slice HX.out; subst eX; clear HI HB; have HI := HI'; have HB := HB'; clear HI' HB' hb) | ((with_reducible refine gate_callee (f := 68) rfl ?_); refine goesL_ (some 46) rfl rfl Tryz.func68 (by kernel_rfl) rfl #[.pointer (some ⟨gq, 0, none⟩)] rfl (by (try simp only [List.map_toArray, List.map_cons, List.map_nil]); first | done | rfl) ?_; (with_reducible refine (spec_l1Cur_summed.calls gq l0 a3 a4 z1 z2 z3 z4 w _ ?hI ?hB HA8.out).mono ?_); (case hI => exact HI.out); (case hB => exact HB.out); rintro e w9 ⟨rfl, hI, hb, hk⟩; refine ⟨_, rfl, ?_⟩; have HX' := Aside0.mk (Kd.R_keep HX.out hk (fun k hk => hk.2)); clear HX; have HX := HX'; clear HX'; clear HI HB; have HI := Aside0.mk hI; have HB := Aside0.mk hb; clear hI hb hk))
    first | go_ret3 | skip
    exact ⟨rfl, HB.out⟩

end Go.Proofs.YtlbnhjeblknepaaGreat.E
