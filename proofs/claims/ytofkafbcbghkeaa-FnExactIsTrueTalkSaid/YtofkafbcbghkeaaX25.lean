-- WRITTEN by xprint.py, a program of this session that drives the kit's printer: out of the translation. Lean checks it.
import Derived.Test.YtofkafbcbghkeaaX0
import Derived.Test.YtofkafbcbghkeaaX10
import Derived.Test.YtofkafbcbghkeaaX16
import Derived.Test.YtofkafbcbghkeaaWLast
import Derived.Test.YtofkafbcbghkeaaWWords
namespace Go.Proofs.Ytofkafbcbghkeaa.X
open Go.RowKit Go.Proofs.YtofkafbcbghkeaaW.PrintWords Go.Proofs.YtofkafbcbghkeaaW.PrintLast
set_option linter.unusedVariables false
set_option linter.unusedSimpArgs false

-- OURS, BY HAND
/-! ### impl_FirstLeft: function 28 -/
-- func impl.FirstLeft
-- ext rounds=0 making=1
-- needs impl.PairsLeft
/-- The first pair of a list, as it is read. -/
theorem first_at {W w1 : World} {A : Option Addr} {x : List Int} {xs : List (List Int)} (hC : Kd.C (Kd.slice 3 (Kd.int .i64)) w1 A (x :: xs).length (x :: xs)) (ha : Ages x) :
    ∃ ad A1 c1, A = some ad ∧ (∀ m, (w1.drewN m).cell? (ad.add 0) = some (.slice (some A1) 2 c1)) ∧ (∀ m, (w1.drewN m).cell? (A1.add 0) = some (.int .i64 (rd x 0))) ∧ (∀ m, (w1.drewN m).cell? (A1.add 1) = some (.int .i64 (rd x 1))) := by
  have hx := ha.len
  obtain ⟨ad, A1, c1, rfl, h0, h1, h2, _⟩ := row_at hC (Below.refl _ _) (k := 0) (by simp)
  have e0 : (x :: xs)[0] = x := rfl
  rw [e0, hx] at h0
  rw [e0] at h2
  obtain ⟨a1, rfl, q0⟩ := Kd.at_int h2 0 (by omega) (by rw [hx]; decide)
  refine ⟨ad, a1, c1, rfl, fun m => ?_, fun m => ?_, fun m => ?_⟩
  · exact (pw_cell_below (pw_below_drewN (Below.refl _ _) m) h0)
  · exact (pw_cell_below (pw_below_drewN (Below.refl _ _) m) q0)
  · obtain ⟨a2, e, q1⟩ := Kd.at_int h2 1 (by omega) (by rw [hx]; decide)
    obtain rfl := Option.some.inj e
    exact (pw_cell_below (pw_below_drewN (Below.refl _ _) m) q1)
def impl_FirstLeft.f (m : Int) (s : ByteArray) : Option (Int × Int × Bool) := if validLT m s = true then (match leftList m s with | [] => some (0, 0, false) | x :: _ => some (rd x 0, rd x 1, true)) else some (0, 0, false)
set_option maxHeartbeats 1600000 in
set_option maxRecDepth 100000 in
theorem impl_FirstLeft.calls (m : Int) (s : ByteArray) (r1 r2 : Int) (r3 : Bool) (W : World) (h : impl_FirstLeft.f m s = some (r1, r2, r3)) :
    Calls Try.prog 28 #[.int .i64 m, .string s] W fun e w' => e = .returned (.tuple #[.int .i64 r1, .int .i64 r2, .bool r3]) ∧ Below W.heap.size W w' := by
  unfold impl_FirstLeft.f at h
  have HL := Aside0.mk (PairsLeft_calls m s W)
  cases hv : validLT m s with
  | true =>
    simp only [hv, if_true] at HL
    rw [hv, if_pos rfl] at h
    have hm := (validLT_of hv).1.2
    have hag := leftList_ages m s hm
    cases hl : leftList m s with
    | nil =>
      rw [hl] at HL h
      simp only [Option.some.injEq, Prod.mk.injEq] at h
      obtain ⟨rfl, rfl, rfl⟩ := h
      clear hv hag hl hm 
      go_enter Try.func28, Try.ntmps28
      go_wp2_with (go_at_call 54; (with_reducible refine HL.out.mono ?_); rintro e w1 ⟨A, c, rfl, hc, hC, hb⟩; have HB := Aside0.mk hb; clear hC hb)
      go_ret3
      exact ⟨rfl, HB.out⟩
    | cons x xs =>
      rw [hl] at HL h hag
      simp only [Option.some.injEq, Prod.mk.injEq] at h
      obtain ⟨rfl, rfl, rfl⟩ := h
      have HAG := Aside0.mk (hag x (List.mem_cons_self ..))
      obtain ⟨n, hn⟩ : ∃ n, n = (x :: xs).length := ⟨_, rfl⟩
      have hn0 : 0 < n := by rw [hn]; simp
      have hn1 : ((n : Int) == 0) = false := beq_eq_false_iff_ne.2 (by omega)
      have hn2 : (0 : Int) < (n : Int) := by omega
      have HN := Aside0.mk hn
      clear hv hag hl hm hn 
      go_enter Try.func28, Try.ntmps28
      go_wp2_with (go_at_call 54; (with_reducible refine HL.out.mono ?_); rintro e w1 ⟨A, c, rfl, hc, hC, hb⟩; rw [← HN.out] at hc ⊢; have HB := Aside0.mk hb; obtain ⟨ad, A1, c1, rfl, q0, q1, q2⟩ := first_at (W := W) (A := A) (by rw [← HN.out] at hC ⊢; exact hC) HAG.out; have q0' : ∀ m, (w1.drewN m).cell? ad = some (.slice (some A1) 2 c1) := q0; have q1' : ∀ m, (w1.drewN m).cell? A1 = some (.int .i64 (rd x 0)) := q1; have d0 : w1.drew.cell? (ad.add 0) = some (.slice (some A1) 2 c1) := q0 0; have d0' : w1.drew.cell? ad = some (.slice (some A1) 2 c1) := q0 0; have d1 : w1.drew.cell? (A1.add 0) = some (.int .i64 (rd x 0)) := q1 0; have d1' : w1.drew.cell? A1 = some (.int .i64 (rd x 0)) := q1 0; have d2 : w1.drew.cell? (A1.add 1) = some (.int .i64 (rd x 1)) := q2 0; have d2' : w1.cell? ⟨A1.block, A1.off + 1, none⟩ = some (.int .i64 (rd x 1)) := q2 0; clear hC hb)
      go_region
      all_goals
        go_wp2
        go_ret3
        exact ⟨rfl, by repeat (first | exact HB.out | apply below_drew | exact below_then (pw_below_drewN (Below.refl _ _) _) (by simp) HB.out)⟩
  | false =>
    simp only [hv, Bool.false_eq_true, if_false] at HL
    rw [hv, if_neg (by simp)] at h
    simp only [Option.some.injEq, Prod.mk.injEq] at h
    obtain ⟨rfl, rfl, rfl⟩ := h
    clear hv 
    go_enter Try.func28, Try.ntmps28
    go_wp2_with (go_at_call 54; (with_reducible refine HL.out.mono ?_); rintro e w1 ⟨rfl, hb⟩; have HB := Aside0.mk hb; clear hb)
    go_ret3
    exact ⟨rfl, HB.out⟩

end Go.Proofs.Ytofkafbcbghkeaa.X
