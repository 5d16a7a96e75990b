-- WRITTEN by xprint.py, a program of this session that drives the kit's printer: out of the translation. Lean checks it.
import Derived.Test.YtebidfogkjidaaaE0
import Derived.Test.YtebidfogkjidaaaE8
import Derived.Test.YtebidfogkjidaaaE15
import Derived.Test.YtebidfogkjidaaaE25
import Derived.Test.YtebidfogkjidaaaE26
import Derived.Test.YtebidfogkjidaaaE27
import Derived.Test.YtebidfogkjidaaaWLast
import Derived.Test.YtebidfogkjidaaaWWords
namespace Go.Proofs.Ytebidfogkjidaaa.E
open Go.RowKit Go.Proofs.YtebidfogkjidaaaW.PrintWords Go.Proofs.YtebidfogkjidaaaW.PrintLast
set_option linter.unusedVariables false
set_option linter.unusedSimpArgs false

-- OURS, BY HAND
/-! ### laws_FnExactToldByYoungest: function 4 -/
-- func laws.FnExactToldByYoungest
-- ext rounds=1 making=1
-- needs spec.ToldByYoungest
-- needs impl.ToldByYoungest
-- needs laws.eqIntSS
-- needs laws.markIntSS
-- needs laws.heldIntSS
-- seat Ytebidfogkjidaaa
set_option maxHeartbeats 8000000 in
set_option maxRecDepth 100000 in
theorem laws_FnExactToldByYoungest.rows_walk (a0 a1 : Int) (w : World) (k : Nat) (r1 x : List (List Int)) (r2 : Bool) (m : Int)
    (hs : ∀ W, Calls Try.prog 9 #[.int .i64 a0, .int .i64 a1] W fun e w' => ∃ A c, e = .returned (.tuple #[.slice A r1.length c, .bool r2]) ∧ r1.length ≤ c ∧ Kd.C (Kd.slice 3 (Kd.int .i64)) w' A r1.length r1 ∧ Below W.heap.size W w')
    (hi : ∀ W, Calls Try.prog 10 #[.int .i64 a0, .int .i64 a1] W fun e w' => ∃ v us, e = .returned (.tuple #[v, .bool r2]) ∧ Sep w' W.heap.size v us r1 ∧ Below W.heap.size W w')
    (heq : laws_eqIntSS.f k r1 r1 = some true) (hm : markSS k r1 1 = some (m, x)) (hh : laws_heldIntSS.f k x 1 = some m) (hm0 : 0 ≤ m) :
    Calls Try.prog 4 #[.int .i64 a0, .int .i64 a1] w fun e w' => e = .returned (.bool true) ∧ Below w.heap.size w w' := by
  have HS := Aside0.mk hs
  have HI := Aside0.mk hi
  have HEQ := Aside0.mk heq
  have HM := Aside0.mk hm
  have HH := Aside0.mk hh
  clear hs hi heq hm hh
  go_enter Try.func4, Try.ntmps4
  go_wp2_with fail
  refine (HS.out _).mono ?_
  rintro e w1 ⟨A, c, rfl, hc, hC, hb1⟩
  have HB1 := Aside0.mk hb1
  have HC1 := Aside0.mk hC
  clear hb1 hC
  go_wp2_with fail
  refine (HI.out _).mono ?_
  rintro e w2 ⟨v, us, rfl, hS, hb2⟩
  obtain ⟨A2, c2, rfl, hc2, hC2⟩ := hS.reads
  have HS2 := Aside0.mk hS
  have HE1 := Aside0.mk (laws_eqIntSS.calls k A2 c2 r1 A c r1 true w2 hC2 hc2 (Kd.C_below HC1.out hb2) hc HEQ.out)
  have HB2 := Aside0.mk hb2
  clear hS hb2 hC2
  go_wp2_with (go_at_call 11; (with_reducible refine HE1.out.mono ?_); rintro e w' ⟨rfl, ⟨n3, rfl⟩⟩)
  refine (markIntSS_calls k _ us r1 x 1 m w1 _ (pw_below_drewN HB2.out n3) (HS2.out.below (pw_below_drewN (Below.refl _ _) n3)) HM.out).mono ?_
  rintro e w4 ⟨rfl, hS4, hB4⟩
  have HS4 := Aside0.mk hS4
  have HB4 := Aside0.mk hB4
  obtain ⟨A4, c4, e4, hc4, hC4⟩ := hS4.reads
  have hxl : x.length = r1.length := by have := hS4.len; have := HS2.out.len; omega
  obtain ⟨rfl, rfl⟩ : A4 = A2 ∧ c4 = c2 := by injection e4 with e5 _ e6; exact ⟨e5.symm, e6.symm⟩
  clear e4
  have hH4 := laws_heldIntSS.calls k A4 c4 x 1 m w4 hC4 hc4 HH.out
  rw [hxl] at hH4
  have HH4 := Aside0.mk hH4
  have hmm : (m == m) = true := by simp
  have hmn : decide (m < 0) = false := decide_eq_false (by omega)
  clear hS4 hB4 hH4 hC4
  go_wp2_with (go_at_call 13; (with_reducible refine HH4.out.mono ?_); rintro e w' ⟨rfl, ⟨n5, rfl⟩⟩)
  refine (HI.out _).mono ?_
  rintro e w6 ⟨v6, us6, rfl, hS6, hb6⟩
  obtain ⟨A6, c6, rfl, hc6, hC6⟩ := hS6.reads
  have HB6 := Aside0.mk hb6
  have hB14 : Below w1.heap.size w1 w6 := below_then (pw_below_drewN HB4.out n5) (by have := HB4.out.size; simpa using this) hb6
  have HE6 := Aside0.mk (laws_eqIntSS.calls k A6 c6 r1 A c r1 true w6 hC6 hc6 (Kd.C_below HC1.out hB14) hc HEQ.out)
  have HB14 := Aside0.mk hB14
  have HS7 := Aside0.mk ((HS4.out.below (pw_below_drewN (Below.refl _ _) n5)).below hb6)
  clear hS6 hb6 hC6 hB14
  go_wp2_with (go_at_call 11; (with_reducible refine HE6.out.mono ?_); rintro e w' ⟨rfl, ⟨n7, rfl⟩⟩)
  have hS8 := HS7.out.below (pw_below_drewN (Below.refl w6.heap.size w6) n7)
  obtain ⟨A8, c8, e8, hc8, hC8⟩ := hS8.reads
  obtain ⟨rfl, rfl⟩ : A8 = A4 ∧ c8 = c4 := by injection e8 with e5 _ e6; exact ⟨e5.symm, e6.symm⟩
  clear e8
  have hH8 := laws_heldIntSS.calls k A8 c8 x 1 m _ hC8 hc8 HH.out
  rw [hxl] at hH8
  have HH8 := Aside0.mk hH8
  clear hS8 hC8 hH8
  go_wp2_with (go_at_call 13; (with_reducible refine HH8.out.mono ?_); rintro e w' ⟨rfl, ⟨n9, rfl⟩⟩)
  go_ret
  exact ⟨rfl, below_then HB1.out HB1.out.size (by repeat (first | exact HB14.out | apply pw_below_drewN))⟩
def laws_FnExactToldByYoungest.Pure : Prop := ∀ (a0 a1 : Int), (Lit.int .i64 a0).wf = true → (Lit.int .i64 a1).wf = true → ∃ k r1 r2 m x, spec_ToldByYoungest.f a0 a1 = some (r1, r2) ∧ ToldF false a0 a1 r1 r2 ∧ laws_eqIntSS.f k r1 r1 = some true ∧ markSS k r1 1 = some (m, x) ∧ laws_heldIntSS.f k x 1 = some m ∧ 0 ≤ m
theorem laws_FnExactToldByYoungest.walk (P : laws_FnExactToldByYoungest.Pure) (a0 a1 : Int) (w : World) (w0 : (Lit.int .i64 a0).wf = true) (w1 : (Lit.int .i64 a1).wf = true) :
    Calls Try.prog 4 #[.int .i64 a0, .int .i64 a1] w fun e w' => e = .returned (.bool true) ∧ Below w.heap.size w w' := by
  obtain ⟨k, r1, r2, m, x, h1, h2, h3, h4, h5, h6⟩ := P a0 a1 w0 w1
  refine laws_FnExactToldByYoungest.rows_walk a0 a1 w k r1 x r2 m (fun W => ?_) (fun W => ?_) h3 h4 h5 h6
  · refine (spec_ToldByYoungest.calls a0 a1 r1 r2 W h1).mono ?_
    rintro e w' ⟨A, c, rfl, hc, hC, hb⟩
    exact ⟨A, c, rfl, hc, hC, hb⟩
  · refine (impl_ToldByYoungest.calls a0 a1 r1 r2 W h2).mono ?_
    rintro e w' ⟨v, us, rfl, hs, hb⟩
    exact ⟨v, us, rfl, hs, hb⟩

end Go.Proofs.Ytebidfogkjidaaa.E
