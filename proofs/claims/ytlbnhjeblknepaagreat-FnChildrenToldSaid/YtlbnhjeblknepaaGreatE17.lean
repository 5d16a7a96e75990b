-- WRITTEN by xprint.py, a program of this session that drives the kit's printer: out of the translation. Lean checks it.
import Derived.Test.YtlbnhjeblknepaaGreatE0
import Derived.Test.YtlbnhjeblknepaaGreatEa
import Derived.Test.YtlbnhjeblknepaaGreatE16
import Derived.Test.YtlbnhjeblknepaaGreatWm
namespace Go.Proofs.YtlbnhjeblknepaaGreat.E
open Go.RowKit Go.Proofs.YtlbnhjeblknepaaGreatW.PrintWords Go.Proofs.YtlbnhjeblknepaaGreatW.PrintLast
set_option linter.unusedVariables false
set_option linter.unusedSimpArgs false

-- OURS, BY HAND
/-! ### impl_distinct: function 54 -/
-- func impl.distinct
-- ext rounds=0 making=1
-- needs slices.Clone[[]int,int]
-- needs slices.Sort[[]int,int]
-- import Derived.Sort.OwnSortedInts
-- import Derived.Lib.OwnBridge
-- import Derived.Lib.SlicesCompact
-- import Derived.WalkSpells
def impl_distinct.f (l : List Int) : Option (List Int) := if l.length ≤ 200000 then some (Lib.compact (l.mergeSort fun x y => decide (x ≤ y))) else none
theorem own_ints {w : World} {base : Nat} {ok : Nat → Prop} {v : Value} {l : List Int} (h : (Kd.int .i64).R 3 w base ok v l) : w.ownsRow base 3 1 v l.length (l.map (Value.int .i64)) := Kd.own_of_R h
theorem ints_own {w : World} {base : Nat} {v : Value} {l : List Int} (h : w.ownsRow base 3 1 v l.length (l.map (Value.int .i64))) : (Kd.int .i64).R 3 w base (fun _ => True) v l := Kd.R_of_own h (fun _ _ => trivial)
theorem compact_le (l : List Int) : (Lib.compact l).length ≤ l.length := by
  unfold Lib.compact Lib.compactUpTo
  rw [List.length_map]
  have := List.length_filter_le (Lib.keeps l.toArray) (List.range l.length)
  simpa using this
theorem holds2 {w : World} {base g n cap : Nat} {srt : List Int} (hl : srt.length = n) (h : w.ownsRow base 3 1 (.slice (some ⟨g, 0, none⟩) n cap) n (srt.map (Value.int .i64))) : Sort.Holds (Value.int .i64) w g 0 srt.toArray := by
  rcases h.2 with ⟨e, _⟩ | ⟨g', cap', cur, e, hbs, hg, hnc, hcm, hsz, htk⟩
  · cases e
  · injection e with e1 _ _
    injection e1 with e1
    injection e1 with e1
    subst e1
    exact holds_of_blockI (ss := srt) hg (by rw [hl]; simpa using htk)
set_option maxHeartbeats 800000 in
set_option maxRecDepth 100000 in
theorem impl_distinct.calls (A0 : Option Addr) (c0 : Nat) (l0 : List Int) (r : List Int) (w : World) (hr0 : Kd.C (Kd.int .i64) w A0 l0.length l0) (hc0 : l0.length ≤ c0) (h : impl_distinct.f l0 = some r) :
    Calls Tryz.prog 54 #[.slice A0 l0.length c0] w fun e w' => ∃ v0_ : Value, e = .returned v0_ ∧ Kd.R (Kd.int .i64) 3 w' w.heap.size (fun _ => True) v0_ r ∧ Below w.heap.size w w' := by
  unfold impl_distinct.f at h
  by_cases hl : l0.length ≤ 200000
  · rw [if_pos hl] at h
    obtain rfl := Option.some.inj h
    have HC := Aside0.mk (slices_Clone_int_int.calls A0 c0 l0 l0 w hr0 hc0 (by unfold slices_Clone_int_int.f; rw [if_pos (by omega)]))
    have HS := Aside0.mk (fun (g cap : Nat) (W1 : World) (h : Sort.Holds (Value.int .i64) W1 g 0 l0.toArray) (hg : g < W1.heap.size) => sortInt_calls g 0 cap l0 W1 h hg (by omega))
    have HK := Aside0.mk (fun (g cap : Nat) (W1 : World) (h : Sort.Holds (Value.int .i64) W1 g 0 (l0.mergeSort fun x y => decide (x ≤ y)).toArray) (hcp : l0.length ≤ cap) => show Calls Tryz.prog 90 #[.slice (some ⟨g, 0, none⟩) l0.length cap] W1 _ from by have hx := compactInt_calls g 0 cap (l0.mergeSort fun x y => decide (x ≤ y)) W1 h (by rw [List.length_mergeSort]; omega) (by rw [List.length_mergeSort]; exact hcp); rw [List.length_mergeSort] at hx; exact hx)
    clear hr0 hc0 h
    obtain ⟨srt, hsrt⟩ : ∃ srt, srt = l0.mergeSort fun x y => decide (x ≤ y) := ⟨_, rfl⟩
    have hsl : srt.length = l0.length := by rw [hsrt, List.length_mergeSort]
    rw [← hsrt] at HS HK ⊢
    have HSL := Aside0.mk hsl
    have HE := Aside0.mk (show l0 = [] → srt = [] by intro e; rw [e] at hsl; exact List.eq_nil_of_length_eq_zero hsl)
    have HN := Aside0.mk (fun W1 => sortNone_calls none 0 W1)
    have HM := Aside0.mk (fun W1 => compactNone_calls none 0 W1)
    clear hsrt hsl
    go_enter Tryz.func54, Tryz.ntmps54
    go_wp2_with (go_at_call 88; (with_reducible refine HC.out.mono ?_); rintro e w1 ⟨v1, rfl, hR, hb⟩; have HR1 := Aside0.mk hR; have HB1 := Aside0.mk hb; clear hR hb)
    have hown := own_ints HR1.out
    rcases hown.2 with ⟨rfl, e⟩ | ⟨g, cap, cur, rfl, hbs, hg, hnc, hcm, hsz, htk⟩
    · have h0 : l0 = [] := List.eq_nil_of_length_eq_zero e
      have hs0 := HE.out h0
      clear hown
      go_wp2_with (first | (go_at_call 89; (with_reducible refine (HN.out _).mono ?_); rintro e w' ⟨rfl, rfl⟩) | (go_at_call 90; (with_reducible refine (HM.out _).mono ?_); rintro e w' ⟨rfl, rfl⟩))
      go_ret
      refine ⟨_, rfl, ?_, HB1.out⟩
      rw [hs0]
      exact Kd.R_nil _ _ _ _ _
    · have hH := holds_of_blockI (ss := l0) hg (by simpa using htk)
      have hgl : g < w1.heap.size := blk_lt hg
      have HHH := Aside0.mk hH
      have HGL := Aside0.mk hgl
      have HG := Aside0.mk hg
      have HBS := Aside0.mk hbs
      have HNC := Aside0.mk hnc
      have HCM := Aside0.mk hcm
      have HSZ := Aside0.mk hsz
      clear hown hH hgl hg htk hbs hnc hcm hsz
      go_wp2_with (first | (go_at_call 89; (with_reducible refine (HS.out _ _ _ HHH.out HGL.out).mono ?_); rintro e w2 ⟨rfl, nn, os, hw2⟩; have HO2 := Aside0.mk (show w2.ownsRow w.heap.size 3 1 (.slice (some ⟨g, 0, none⟩) l0.length cap) l0.length (srt.map (Value.int .i64)) by rw [hw2]; exact ownsRow_sortedI HSL.out HBS.out HG.out HNC.out HCM.out HSZ.out); have HB2 := Aside0.mk (show Below w.heap.size w w2 by rw [hw2]; exact HB1.out.grown (grownBy_sortedI _) HB1.out.size (fun k hk => by cases hk; exact HBS.out)); clear hw2) | (go_at_call 90; (with_reducible refine (HK.out _ _ _ ?hH HNC.out).mono ?_); (case hH => exact holds2 HSL.out HO2.out); rintro e w3 ⟨rfl, q, hw3⟩; have HO3 := Aside0.mk (show w3.ownsRow w.heap.size 3 1 (.slice (some ⟨g, 0, none⟩) (Lib.compact srt).length cap) (Lib.compact srt).length ((Lib.compact srt).map (Value.int .i64)) by (rw [hw3]; have hx := Lib.ownsRow_putRow (q := q) (k := (Lib.compact srt).length) (ys := Lib.compact srt ++ List.replicate (l0.length - (Lib.compact srt).length) 0) HO2.out (by rw [List.length_append, List.length_replicate]; have := compact_le srt; have := HSL.out; omega) (by have := compact_le srt; have := HSL.out; omega); rw [List.take_left] at hx; exact hx)); have HB3 := Aside0.mk (show Below w.heap.size w w3 by rw [hw3]; exact Lib.below_putRow HB2.out HBS.out); clear hw3))
      go_ret
      exact ⟨_, rfl, ints_own HO3.out, HB3.out⟩
  · rw [if_neg hl] at h
    cases h

end Go.Proofs.YtlbnhjeblknepaaGreat.E
