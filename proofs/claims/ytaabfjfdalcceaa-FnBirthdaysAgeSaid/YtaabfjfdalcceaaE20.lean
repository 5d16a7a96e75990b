-- WRITTEN by xprint.py, a program of this session that drives the kit's printer: out of the translation. Lean checks it.
import Derived.Test.YtaabfjfdalcceaaE0
import Derived.Test.YtaabfjfdalcceaaE1
import Derived.Test.YtaabfjfdalcceaaE3
import Derived.Test.YtaabfjfdalcceaaE6
import Derived.Test.YtaabfjfdalcceaaE7
import Derived.Test.YtaabfjfdalcceaaE8
import Derived.Test.YtaabfjfdalcceaaE9
import Derived.Test.YtaabfjfdalcceaaE10
import Derived.Test.YtaabfjfdalcceaaE11
import Derived.Test.YtaabfjfdalcceaaE12
import Derived.Test.YtaabfjfdalcceaaE13
import Derived.Test.YtaabfjfdalcceaaE14
import Derived.Test.YtaabfjfdalcceaaE15
import Derived.Test.YtaabfjfdalcceaaE16
import Derived.Test.YtaabfjfdalcceaaE17
import Derived.Test.YtaabfjfdalcceaaE18
import Derived.Test.YtaabfjfdalcceaaE19
import Derived.Test.YtaabfjfdalcceaaWLast
import Derived.Test.YtaabfjfdalcceaaWWords
namespace Go.Proofs.Ytaabfjfdalcceaa.E
open Go.RowKit Go.Proofs.YtaabfjfdalcceaaW.PrintWords Go.Proofs.YtaabfjfdalcceaaW.PrintLast
set_option linter.unusedVariables false
set_option linter.unusedSimpArgs false

-- OURS, BY HAND
/-! ### laws_FnBirthdaysAge: function 3 -/
-- func laws.FnBirthdaysAge
-- ext rounds=1 making=1
-- needs laws.big
-- needs spec.DrawNextBirthday
-- needs impl.NextBirthday
-- needs spec.NextBirthday
-- needs impl.LastBirthday
-- needs spec.LastBirthday
-- needs impl.AgesOn
-- needs spec.AgesOn
-- needs impl.SumOfAgesOn
-- needs spec.SumOfAgesOn
-- needs laws.gSame
-- needs laws.gSum
-- needs impl.AgeOn
-- needs impl.DaysOld
-- needs impl.BirthdaysBetween
-- needs impl.DaysApart
-- needs impl.AddDays
-- needs laws.gRises
-- needs laws.gHas
-- needs spec.DrawBirthdaysBetween
-- needs spec.BirthdaysBetween
-- needs spec.DrawAddDays
-- needs spec.AddDays
-- needs spec.DrawDaysApart
-- needs spec.DaysApart
-- needs spec.DrawAgeOn
-- needs spec.AgeOn
-- needs spec.DrawIsDate
-- needs impl.IsDate
-- needs spec.IsDate
-- seat Ytaabfjfdalcceaa
-- import Derived.Test.YtaabfjfdalcceaaSig
set_option maxRecDepth 100000
set_option maxHeartbeats 4000000
noncomputable def g3nth : Nat → Code → Code
  | 0, .seq a _ => a
  | 0, c => c
  | k + 1, .seq _ b => g3nth k b
  | _ + 1, c => c
noncomputable def g3S (i : Nat) : Code := g3nth i (Try.f3.body.getD .skip)
/-- The slots and the memory behind the calls of the first half. -/
def g3St1 (B : List S26) (o0 o1 n0 n1 : Int) (who : List Int) (ok : Bool) (m0 m1 : Int) (whose : List Int) (one : Bool) (ages : List Int) (three : Bool) (sum : Int) (σ : Sg.Fr) (w : World) : Prop := ∃ (A5 : Option Addr) (c5 : Nat) (g6 g7 : Nat) (A8 : Option Addr) (c8 : Nat) (g13 : Nat) (A14 : Option Addr) (c14 : Nat) (A19 : Option Addr) (c19 : Nat),
  (σ 5 = .slice A5 B.length c5 ∧ σ 6 = .pointer (some ⟨g6, 0, none⟩) ∧ σ 7 = .pointer (some ⟨g7, 0, none⟩) ∧ σ 8 = .slice A8 who.length c8 ∧ σ 9 = .bool ok ∧ σ 13 = .pointer (some ⟨g13, 0, none⟩) ∧ σ 14 = .slice A14 whose.length c14 ∧ σ 15 = .bool one ∧ σ 19 = .slice A19 ages.length c19 ∧ σ 20 = .bool three ∧ σ 23 = .int .i64 sum) ∧
  (Kd.C k26 w A5 B.length B ∧ B.length ≤ c5) ∧ (w.heap[g6]? = some (.cells #[.int .i64 o0, .int .i64 o1] 26 (0, 0))) ∧ (w.heap[g7]? = some (.cells #[.int .i64 n0, .int .i64 n1] 26 (0, 0))) ∧ (Kd.C (Kd.int .i64) w A8 who.length who ∧ who.length ≤ c8) ∧ (w.heap[g13]? = some (.cells #[.int .i64 m0, .int .i64 m1] 26 (0, 0))) ∧ (Kd.C (Kd.int .i64) w A14 whose.length whose ∧ whose.length ≤ c14) ∧ (Kd.C (Kd.int .i64) w A19 ages.length ages ∧ ages.length ≤ c19)
theorem g3St1.keep {B : List S26} {o0 o1 n0 n1 : Int} {who : List Int} {ok : Bool} {m0 m1 : Int} {whose : List Int} {one : Bool} {ages : List Int} {three : Bool} {sum : Int} {σ σ' : Sg.Fr} {w w' : World} (h : g3St1 B o0 o1 n0 n1 who ok m0 m1 whose one ages three sum σ w) (hs : ∀ i, 4 < i → i < 24 → σ' i = σ i) (hb : Below w.heap.size w w') : g3St1 B o0 o1 n0 n1 who ok m0 m1 whose one ages three sum σ' w' := by
  obtain ⟨A5, c5, g6, g7, A8, c8, g13, A14, c14, A19, c19, ⟨h5, h6, h7, h8, h9, h13, h14, h15, h19, h20, h23⟩, ⟨q1, q2⟩, q3, q4, ⟨q5, q6⟩, q7, ⟨q8, q9⟩, q10, q11⟩ := h
  exact ⟨A5, c5, g6, g7, A8, c8, g13, A14, c14, A19, c19, ⟨(hs 5 (by decide) (by decide)).trans h5, (hs 6 (by decide) (by decide)).trans h6, (hs 7 (by decide) (by decide)).trans h7, (hs 8 (by decide) (by decide)).trans h8, (hs 9 (by decide) (by decide)).trans h9, (hs 13 (by decide) (by decide)).trans h13, (hs 14 (by decide) (by decide)).trans h14, (hs 15 (by decide) (by decide)).trans h15, (hs 19 (by decide) (by decide)).trans h19, (hs 20 (by decide) (by decide)).trans h20, (hs 23 (by decide) (by decide)).trans h23⟩,
    ⟨Kd.C_below q1 hb, q2⟩, blk_below q3 hb, blk_below q4 hb, ⟨Kd.C_below q5 hb, q6⟩, blk_below q7 hb, ⟨Kd.C_below q8 hb, q9⟩, Kd.C_below q10 hb, q11⟩
theorem g3neqD (a b c e : Int) (w : World) (x y : Operand) : ((eqGuard .neq 26 x y (.agg #[.int .i64 a, .int .i64 b]) (.agg #[.int .i64 c, .int .i64 e]) >>= fun _ => binOp .neq 26 (.agg #[.int .i64 a, .int .i64 b]) (.agg #[.int .i64 c, .int .i64 e])) : Sem Value).run Try.prog w = .ok (.bool (!(a == c && b == e))) w := by
  have hu26 := Try.underlying26
  have hu3 := Try.underlying3
  have hg : Try.prog.eqGuardType Try.prog.depth 26 = false := by kernel_rfl
  simp only [Sem.run_bind]
  rw [show (eqGuard .neq 26 x y (.agg #[.int .i64 a, .int .i64 b]) (.agg #[.int .i64 c, .int .i64 e])).run Try.prog w = .ok () w by simp [eqGuard, hg]]
  simp only [Result.andThen_ok]
  rw [run_neq_struct]
  go_simp
  by_cases h1 : a = c <;> by_cases h2 : b = e <;> simp [h1, h2]
theorem g3eqlD (a b c e : Int) (w : World) (x y : Operand) : ((eqGuard .eql 26 x y (.agg #[.int .i64 a, .int .i64 b]) (.agg #[.int .i64 c, .int .i64 e]) >>= fun _ => binOp .eql 26 (.agg #[.int .i64 a, .int .i64 b]) (.agg #[.int .i64 c, .int .i64 e])) : Sem Value).run Try.prog w = .ok (.bool (a == c && b == e)) w := by
  have hu26 := Try.underlying26
  have hu3 := Try.underlying3
  have hg : Try.prog.eqGuardType Try.prog.depth 26 = false := by kernel_rfl
  simp only [Sem.run_bind]
  rw [show (eqGuard .eql 26 x y (.agg #[.int .i64 a, .int .i64 b]) (.agg #[.int .i64 c, .int .i64 e])).run Try.prog w = .ok () w by simp [eqGuard, hg]]
  simp only [Result.andThen_ok]
  rw [run_eql_struct]
  go_simp
  by_cases h1 : a = c <;> by_cases h2 : b = e <;> simp [h1, h2]
theorem g3p1 (k : Nat) (A0 : Option Addr) (c0 : Nat) (l0 : List Int) (B : List S26) (o0 o1 n0 n1 : Int) (who : List Int) (ok : Bool) (m0 m1 : Int) (whose : List Int) (one : Bool) (ages : List Int) (three : Bool) (sum : Int) (σ τ : Sg.Fr) (w : World) {rest : Code} {Q : Exit → Act → World → Prop} (h0 : σ 0 = .slice A0 l0.length c0) (hC0 : Kd.C (Kd.int .u8) w A0 l0.length l0) (hc0 : l0.length ≤ c0)
    (hD : spec_DrawNextBirthday.f k l0 = some (B, o0, o1)) (hNI : impl_NextBirthday.f k B o0 o1 = some (n0, n1, who, ok)) (hNS : spec_NextBirthday.f k B o0 o1 = some (n0, n1, who, ok)) (hLI : impl_LastBirthday.f k B o0 o1 = some (m0, m1, whose, one)) (hLS : spec_LastBirthday.f k B o0 o1 = some (m0, m1, whose, one)) (hAI : impl_AgesOn.f k B o0 o1 = some (ages, three)) (hAS : spec_AgesOn.f k B o0 o1 = some (ages, three)) (hSI : impl_SumOfAgesOn.f k B o0 o1 = some (sum, three)) (hSS : spec_SumOfAgesOn.f k B o0 o1 = some (sum, three))
    (hW1 : laws_gSame.f k who who = some true) (hW2 : laws_gSame.f k whose whose = some true) (hW3 : laws_gSame.f k ages ages = some true) (hOT : ok = true → three = true) (hWT : one = true → three = true)
    (hK : ∀ σ' τ' w', g3St1 B o0 o1 n0 n1 who ok m0 m1 whose one ages three sum σ' w' → σ' 1 = σ 1 → Below w.heap.size w w' → rest.wp Try.prog Q (Sg.fr 674 (Sg.mix 86 σ' τ')) w') :
    (Code.seq (g3S 2) (Code.seq (g3S 3) (Code.seq (g3S 4) (Code.seq (g3S 5) (Code.seq (g3S 6) (Code.seq (g3S 7) (Code.seq (g3S 8) (Code.seq (g3S 9) (Code.seq (g3S 10) (Code.seq (g3S 11) rest)))))))))).wp Try.prog Q (Sg.fr 674 (Sg.mix 86 σ τ)) w := by
  have hu26 := Try.underlying26
  refine Sg.sq ?_
  refine Sg.rg ?_
  refine Sg.mv (v := .slice A0 l0.length c0) (hs := Sg.rs rfl h0) (h := ?_)
  refine Sg.cl (args := #[.slice A0 l0.length c0]) (hf := Try.func5) (hargs := Sg.a1 (Sg.rs rfl rfl)) (h := ?_)
  refine (spec_DrawNextBirthday.calls k A0 c0 l0 B o0 o1 _ hC0 hc0 hD).mono ?_
  rintro _ w1 ⟨v3, rfl, r4, b2⟩
  obtain ⟨A5, c6, rfl⟩ := Kd.R_slice r4
  have f7 := (Kd.R_reads' r4).2.2
  have f8 := (Kd.R_reads' r4).2.1
  refine ⟨_, _, rfl, (Sg.ps rfl), ?_⟩
  refine Sg.mv (v := .tuple #[.slice A5 B.length c6, .agg #[.int .i64 o0, .int .i64 o1]]) (h := ?_)
  refine Sg.ext (v := .slice A5 B.length c6) (h := ?_)
  refine Sg.ext (v := .agg #[.int .i64 o0, .int .i64 o1]) (h := ?_)
  refine Sg.alo (cs := #[.int .i64 0, .int .i64 0]) (t0 := 26) (hx := by first | (go_simp; done) | (go_simp; rfl)) (h := fun g9 w10 e11 x12 b13 => ⟨_, (Sg.pn rfl), ?_⟩)
  have l14 : w1.heap.size ≤ g9 := Nat.le_of_eq e11.symm
  refine Sg.asg (v := .slice A5 B.length c6) (h := ?_)
  refine Sg.sto (cs := #[.int .i64 o0, .int .i64 o1]) x12 (by kernel_rfl) rfl (by kernel_rfl) Sg.w0 (Sg.rs rfl rfl) (Sg.rs rfl rfl) (fun w15 x16 o17 k18 => ?_)
  have q19 := k18 _ _ l14 b13
  first | refine Sg.nl ?_ | refine Sg.nl1 ?_
  refine Sg.gn fun τ1 => ?_
  refine Sg.sq ?_
  refine Sg.rg ?_
  refine Sg.mv (v := .slice A5 B.length c6) (h := ?_)
  refine Sg.ldr (hu := Try.underlying26) (hd := rfl) (hi := by kernel_rfl) (hg := x16) (h := ?_)
  refine Sg.cl (args := #[.slice A5 B.length c6, .agg #[.int .i64 o0, .int .i64 o1]]) (hf := Try.func6) (hargs := Sg.a2 (Sg.rs rfl rfl) (Sg.rs rfl rfl)) (h := ?_)
  have f20 := Kd.C_below f7 q19
  refine (impl_NextBirthday.calls k A5 c6 B o0 o1 n0 n1 who ok _ f20 f8 hNI).mono ?_
  rintro _ w21 ⟨v23, rfl, r24, b22⟩
  obtain ⟨A25, c26, rfl⟩ := Kd.R_slice r24
  have f27 := (Kd.R_reads' r24).2.2
  have f28 := (Kd.R_reads' r24).2.1
  refine ⟨_, _, rfl, (Sg.ps rfl), ?_⟩
  refine Sg.mv (v := .tuple #[.agg #[.int .i64 n0, .int .i64 n1], .slice A25 who.length c26, .bool ok]) (h := ?_)
  refine Sg.ext (v := .agg #[.int .i64 n0, .int .i64 n1]) (h := ?_)
  refine Sg.ext (v := .slice A25 who.length c26) (h := ?_)
  refine Sg.ext (v := .bool ok) (h := ?_)
  refine Sg.alo (cs := #[.int .i64 0, .int .i64 0]) (t0 := 26) (hx := by first | (go_simp; done) | (go_simp; rfl)) (h := fun g29 w30 e31 x32 b33 => ⟨_, (Sg.pn rfl), ?_⟩)
  have l34 : w21.heap.size ≤ g29 := Nat.le_of_eq e31.symm
  refine Sg.sto (cs := #[.int .i64 n0, .int .i64 n1]) x32 (by kernel_rfl) rfl (by kernel_rfl) Sg.w0 (Sg.rs rfl rfl) (Sg.rs rfl rfl) (fun w35 x36 o37 k38 => ?_)
  have q39 := k38 _ _ l34 b33
  refine Sg.asg (v := .slice A25 who.length c26) (h := ?_)
  refine Sg.asg (v := .bool ok) (h := ?_)
  first | refine Sg.nl ?_ | refine Sg.nl1 ?_
  refine Sg.gn fun τ2 => ?_
  refine Sg.sq ?_
  refine Sg.rg ?_
  refine Sg.mv (v := .slice A5 B.length c6) (h := ?_)
  have f40 := blk_below x16 (below_step b22 q39)
  refine Sg.ldr (hu := Try.underlying26) (hd := rfl) (hi := by kernel_rfl) (hg := f40) (h := ?_)
  refine Sg.cl (args := #[.slice A5 B.length c6, .agg #[.int .i64 o0, .int .i64 o1]]) (hf := Try.func7) (hargs := Sg.a2 (Sg.rs rfl rfl) (Sg.rs rfl rfl)) (h := ?_)
  have f41 := Kd.C_below f20 (below_step b22 q39)
  refine (spec_NextBirthday.calls k A5 c6 B o0 o1 n0 n1 who ok _ f41 f8 hNS).mono ?_
  rintro _ w42 ⟨v44, rfl, r45, b43⟩
  obtain ⟨A46, c47, rfl⟩ := Kd.R_slice r45
  have f48 := (Kd.R_reads' r45).2.2
  have f49 := (Kd.R_reads' r45).2.1
  refine ⟨_, _, rfl, (Sg.ps rfl), ?_⟩
  refine Sg.mv (v := .tuple #[.agg #[.int .i64 n0, .int .i64 n1], .slice A46 who.length c47, .bool ok]) (h := ?_)
  refine Sg.ext (v := .agg #[.int .i64 n0, .int .i64 n1]) (h := ?_)
  refine Sg.ext (v := .slice A46 who.length c47) (h := ?_)
  refine Sg.ext (v := .bool ok) (h := ?_)
  refine Sg.alo (cs := #[.int .i64 0, .int .i64 0]) (t0 := 26) (hx := by first | (go_simp; done) | (go_simp; rfl)) (h := fun g50 w51 e52 x53 b54 => ⟨_, (Sg.pn rfl), ?_⟩)
  have l55 : w42.heap.size ≤ g50 := Nat.le_of_eq e52.symm
  refine Sg.sto (cs := #[.int .i64 n0, .int .i64 n1]) x53 (by kernel_rfl) rfl (by kernel_rfl) Sg.w0 (Sg.rs rfl rfl) (Sg.rs rfl rfl) (fun w56 x57 o58 k59 => ?_)
  have q60 := k59 _ _ l55 b54
  refine Sg.asg (v := .slice A46 who.length c47) (h := ?_)
  refine Sg.asg (v := .bool ok) (h := ?_)
  first | refine Sg.nl ?_ | refine Sg.nl1 ?_
  refine Sg.gn fun τ3 => ?_
  refine Sg.sq ?_
  refine Sg.rg ?_
  refine Sg.mv (v := .slice A5 B.length c6) (h := ?_)
  have f61 := blk_below f40 (below_step b43 q60)
  refine Sg.ldr (hu := Try.underlying26) (hd := rfl) (hi := by kernel_rfl) (hg := f61) (h := ?_)
  refine Sg.cl (args := #[.slice A5 B.length c6, .agg #[.int .i64 o0, .int .i64 o1]]) (hf := Try.func8) (hargs := Sg.a2 (Sg.rs rfl rfl) (Sg.rs rfl rfl)) (h := ?_)
  have f62 := Kd.C_below f41 (below_step b43 q60)
  refine (impl_LastBirthday.calls k A5 c6 B o0 o1 m0 m1 whose one _ f62 f8 hLI).mono ?_
  rintro _ w63 ⟨v65, rfl, r66, b64⟩
  obtain ⟨A67, c68, rfl⟩ := Kd.R_slice r66
  have f69 := (Kd.R_reads' r66).2.2
  have f70 := (Kd.R_reads' r66).2.1
  refine ⟨_, _, rfl, (Sg.ps rfl), ?_⟩
  refine Sg.mv (v := .tuple #[.agg #[.int .i64 m0, .int .i64 m1], .slice A67 whose.length c68, .bool one]) (h := ?_)
  refine Sg.ext (v := .agg #[.int .i64 m0, .int .i64 m1]) (h := ?_)
  refine Sg.ext (v := .slice A67 whose.length c68) (h := ?_)
  refine Sg.ext (v := .bool one) (h := ?_)
  refine Sg.alo (cs := #[.int .i64 0, .int .i64 0]) (t0 := 26) (hx := by first | (go_simp; done) | (go_simp; rfl)) (h := fun g71 w72 e73 x74 b75 => ⟨_, (Sg.pn rfl), ?_⟩)
  have l76 : w63.heap.size ≤ g71 := Nat.le_of_eq e73.symm
  refine Sg.sto (cs := #[.int .i64 m0, .int .i64 m1]) x74 (by kernel_rfl) rfl (by kernel_rfl) Sg.w0 (Sg.rs rfl rfl) (Sg.rs rfl rfl) (fun w77 x78 o79 k80 => ?_)
  have q81 := k80 _ _ l76 b75
  refine Sg.asg (v := .slice A67 whose.length c68) (h := ?_)
  refine Sg.asg (v := .bool one) (h := ?_)
  first | refine Sg.nl ?_ | refine Sg.nl1 ?_
  refine Sg.gn fun τ4 => ?_
  refine Sg.sq ?_
  refine Sg.rg ?_
  refine Sg.mv (v := .slice A5 B.length c6) (h := ?_)
  have f82 := blk_below f61 (below_step b64 q81)
  refine Sg.ldr (hu := Try.underlying26) (hd := rfl) (hi := by kernel_rfl) (hg := f82) (h := ?_)
  refine Sg.cl (args := #[.slice A5 B.length c6, .agg #[.int .i64 o0, .int .i64 o1]]) (hf := Try.func9) (hargs := Sg.a2 (Sg.rs rfl rfl) (Sg.rs rfl rfl)) (h := ?_)
  have f83 := Kd.C_below f62 (below_step b64 q81)
  refine (spec_LastBirthday.calls k A5 c6 B o0 o1 m0 m1 whose one _ f83 f8 hLS).mono ?_
  rintro _ w84 ⟨v86, rfl, r87, b85⟩
  obtain ⟨A88, c89, rfl⟩ := Kd.R_slice r87
  have f90 := (Kd.R_reads' r87).2.2
  have f91 := (Kd.R_reads' r87).2.1
  refine ⟨_, _, rfl, (Sg.ps rfl), ?_⟩
  refine Sg.mv (v := .tuple #[.agg #[.int .i64 m0, .int .i64 m1], .slice A88 whose.length c89, .bool one]) (h := ?_)
  refine Sg.ext (v := .agg #[.int .i64 m0, .int .i64 m1]) (h := ?_)
  refine Sg.ext (v := .slice A88 whose.length c89) (h := ?_)
  refine Sg.ext (v := .bool one) (h := ?_)
  refine Sg.alo (cs := #[.int .i64 0, .int .i64 0]) (t0 := 26) (hx := by first | (go_simp; done) | (go_simp; rfl)) (h := fun g92 w93 e94 x95 b96 => ⟨_, (Sg.pn rfl), ?_⟩)
  have l97 : w84.heap.size ≤ g92 := Nat.le_of_eq e94.symm
  refine Sg.sto (cs := #[.int .i64 m0, .int .i64 m1]) x95 (by kernel_rfl) rfl (by kernel_rfl) Sg.w0 (Sg.rs rfl rfl) (Sg.rs rfl rfl) (fun w98 x99 o100 k101 => ?_)
  have q102 := k101 _ _ l97 b96
  refine Sg.asg (v := .slice A88 whose.length c89) (h := ?_)
  refine Sg.asg (v := .bool one) (h := ?_)
  first | refine Sg.nl ?_ | refine Sg.nl1 ?_
  refine Sg.gn fun τ5 => ?_
  refine Sg.sq ?_
  refine Sg.rg ?_
  refine Sg.mv (v := .slice A5 B.length c6) (h := ?_)
  have f103 := blk_below f82 (below_step b85 q102)
  refine Sg.ldr (hu := Try.underlying26) (hd := rfl) (hi := by kernel_rfl) (hg := f103) (h := ?_)
  refine Sg.cl (args := #[.slice A5 B.length c6, .agg #[.int .i64 o0, .int .i64 o1]]) (hf := Try.func10) (hargs := Sg.a2 (Sg.rs rfl rfl) (Sg.rs rfl rfl)) (h := ?_)
  have f104 := Kd.C_below f83 (below_step b85 q102)
  refine (impl_AgesOn.calls k A5 c6 B o0 o1 ages three _ f104 f8 hAI).mono ?_
  rintro _ w105 ⟨v107, rfl, r108, b106⟩
  obtain ⟨A109, c110, rfl⟩ := Kd.R_slice r108
  have f111 := (Kd.R_reads' r108).2.2
  have f112 := (Kd.R_reads' r108).2.1
  refine ⟨_, _, rfl, (Sg.ps rfl), ?_⟩
  refine Sg.mv (v := .tuple #[.slice A109 ages.length c110, .bool three]) (h := ?_)
  refine Sg.ext (v := .slice A109 ages.length c110) (h := ?_)
  refine Sg.ext (v := .bool three) (h := ?_)
  refine Sg.asg (v := .slice A109 ages.length c110) (h := ?_)
  refine Sg.asg (v := .bool three) (h := ?_)
  first | refine Sg.nl ?_ | refine Sg.nl1 ?_
  refine Sg.gn fun τ6 => ?_
  refine Sg.sq ?_
  refine Sg.rg ?_
  refine Sg.mv (v := .slice A5 B.length c6) (h := ?_)
  have f113 := blk_below f103 b106
  refine Sg.ldr (hu := Try.underlying26) (hd := rfl) (hi := by kernel_rfl) (hg := f113) (h := ?_)
  refine Sg.cl (args := #[.slice A5 B.length c6, .agg #[.int .i64 o0, .int .i64 o1]]) (hf := Try.func11) (hargs := Sg.a2 (Sg.rs rfl rfl) (Sg.rs rfl rfl)) (h := ?_)
  have f114 := Kd.C_below f104 b106
  refine (spec_AgesOn.calls k A5 c6 B o0 o1 ages three _ f114 f8 hAS).mono ?_
  rintro _ w115 ⟨v117, rfl, r118, b116⟩
  obtain ⟨A119, c120, rfl⟩ := Kd.R_slice r118
  have f121 := (Kd.R_reads' r118).2.2
  have f122 := (Kd.R_reads' r118).2.1
  refine ⟨_, _, rfl, (Sg.ps rfl), ?_⟩
  refine Sg.mv (v := .tuple #[.slice A119 ages.length c120, .bool three]) (h := ?_)
  refine Sg.ext (v := .slice A119 ages.length c120) (h := ?_)
  refine Sg.ext (v := .bool three) (h := ?_)
  refine Sg.asg (v := .slice A119 ages.length c120) (h := ?_)
  refine Sg.asg (v := .bool three) (h := ?_)
  first | refine Sg.nl ?_ | refine Sg.nl1 ?_
  refine Sg.gn fun τ7 => ?_
  refine Sg.sq ?_
  refine Sg.rg ?_
  refine Sg.mv (v := .slice A5 B.length c6) (h := ?_)
  have f123 := blk_below f113 b116
  refine Sg.ldr (hu := Try.underlying26) (hd := rfl) (hi := by kernel_rfl) (hg := f123) (h := ?_)
  refine Sg.cl (args := #[.slice A5 B.length c6, .agg #[.int .i64 o0, .int .i64 o1]]) (hf := Try.func12) (hargs := Sg.a2 (Sg.rs rfl rfl) (Sg.rs rfl rfl)) (h := ?_)
  have f124 := Kd.C_below f114 b116
  refine (impl_SumOfAgesOn.calls k A5 c6 B o0 o1 sum three _ f124 f8 hSI).mono ?_
  rintro _ w125 ⟨rfl, b126⟩
  refine ⟨_, _, rfl, (Sg.ps rfl), ?_⟩
  refine Sg.mv (v := .tuple #[.int .i64 sum, .bool three]) (h := ?_)
  refine Sg.ext (v := .int .i64 sum) (h := ?_)
  refine Sg.ext (v := .bool three) (h := ?_)
  refine Sg.asg (v := .int .i64 sum) (h := ?_)
  refine Sg.asg (v := .bool three) (h := ?_)
  first | refine Sg.nl ?_ | refine Sg.nl1 ?_
  refine Sg.gn fun τ8 => ?_
  refine Sg.sq ?_
  refine Sg.rg ?_
  refine Sg.mv (v := .slice A5 B.length c6) (h := ?_)
  have f127 := blk_below f123 b126
  refine Sg.ldr (hu := Try.underlying26) (hd := rfl) (hi := by kernel_rfl) (hg := f127) (h := ?_)
  refine Sg.cl (args := #[.slice A5 B.length c6, .agg #[.int .i64 o0, .int .i64 o1]]) (hf := Try.func13) (hargs := Sg.a2 (Sg.rs rfl rfl) (Sg.rs rfl rfl)) (h := ?_)
  have f128 := Kd.C_below f124 b126
  refine (spec_SumOfAgesOn.calls k A5 c6 B o0 o1 sum three _ f128 f8 hSS).mono ?_
  rintro _ w129 ⟨rfl, b130⟩
  refine ⟨_, _, rfl, (Sg.ps rfl), ?_⟩
  refine Sg.mv (v := .tuple #[.int .i64 sum, .bool three]) (h := ?_)
  refine Sg.ext (v := .int .i64 sum) (h := ?_)
  refine Sg.ext (v := .bool three) (h := ?_)
  refine Sg.asg (v := .int .i64 sum) (h := ?_)
  refine Sg.asg (v := .bool three) (h := ?_)
  first | refine Sg.nl ?_ | refine Sg.nl1 ?_
  refine Sg.gn fun τ9 => ?_
  refine Sg.sq ?_
  refine Sg.sq ?_
  refine Sg.rg ?_
  refine Sg.mv (v := .bool ok) (h := ?_)
  refine Sg.mv (v := .bool ok) (h := ?_)
  refine Sg.bneq (c := false) (hu := Try.underlying4) (h := ?_)
  refine Sg.mv (v := .bool false) (h := ?_)
  have f131 := blk_below x36 (below_step (below_step (below_step (below_step (below_step (below_step (below_step (below_step (below_step b43 q60) b64) q81) b85) q102) b106) b116) b126) b130)
  refine Sg.ldr (hu := Try.underlying26) (hd := rfl) (hi := by kernel_rfl) (hg := f131) (hw := Sg.wy (d := 149) rfl rfl rfl) (h := ?_)
  have f132 := blk_below x57 (below_step (below_step (below_step (below_step (below_step (below_step (below_step b64 q81) b85) q102) b106) b116) b126) b130)
  refine Sg.ldr (hu := Try.underlying26) (hd := rfl) (hi := by kernel_rfl) (hg := f132) (hw := Sg.wy (d := 149) rfl rfl rfl) (h := ?_)
  refine Sg.bin (v3 := .bool false) (hw := Sg.wy (d := 149) rfl rfl rfl) (hv := fun w_ x_ y_ => (g3neqD _ _ _ _ w_ x_ y_).trans (by simp)) (h := ?_)
  refine Sg.pk (v := .bool false) (h := ?_)
  refine Sg.mv (v := .bool false) (h := ?_)
  refine Sg.mv (v := .slice A25 who.length c26) (hw := Sg.wy (d := 154) rfl rfl rfl) (h := ?_)
  refine Sg.mv (v := .slice A46 who.length c47) (hw := Sg.wy (d := 154) rfl rfl rfl) (h := ?_)
  refine Sg.cl (args := #[.slice A25 who.length c26, .slice A46 who.length c47]) (hf := Try.func14) (hw := Sg.wy (d := 154) rfl rfl rfl) (hargs := Sg.a2 (Sg.rs rfl rfl) (Sg.rs rfl rfl)) (h := ?_)
  have f133 := Kd.C_below f27 (below_step (below_step (below_step (below_step (below_step (below_step (below_step (below_step (below_step (below_step q39 b43) q60) b64) q81) b85) q102) b106) b116) b126) b130)
  have f134 := Kd.C_below f48 (below_step (below_step (below_step (below_step (below_step (below_step (below_step (below_step q60 b64) q81) b85) q102) b106) b116) b126) b130)
  refine (laws_gSame.calls k A25 c26 who A46 c47 who true _ f133 f28 f134 f49 hW1).mono ?_
  rintro _ w135 ⟨rfl, d137⟩
  have b136 := d137.below
  refine ⟨_, _, rfl, (Sg.ps rfl), ?_⟩
  refine Sg.nt (b := true) (hw := Sg.wy (d := 154) rfl rfl rfl) (h := ?_)
  refine Sg.pk (v := .bool false) (h := ?_)
  refine Sg.mv (v := .bool false) (h := ?_)
  refine Sg.mv (v := .bool one) (hw := Sg.wy (d := 160) rfl rfl rfl) (h := ?_)
  refine Sg.mv (v := .bool one) (hw := Sg.wy (d := 160) rfl rfl rfl) (h := ?_)
  refine Sg.bneq (c := false) (hu := Try.underlying4) (hw := Sg.wy (d := 160) rfl rfl rfl) (h := ?_)
  refine Sg.pk (v := .bool false) (h := ?_)
  refine Sg.mv (v := .bool false) (h := ?_)
  have f138 := blk_below x78 (below_step (below_step (below_step (below_step (below_step (below_step b85 q102) b106) b116) b126) b130) b136)
  refine Sg.ldr (hu := Try.underlying26) (hd := rfl) (hi := by kernel_rfl) (hg := f138) (hw := Sg.wy (d := 165) rfl rfl rfl) (h := ?_)
  have f139 := blk_below x99 (below_step (below_step (below_step (below_step b106 b116) b126) b130) b136)
  refine Sg.ldr (hu := Try.underlying26) (hd := rfl) (hi := by kernel_rfl) (hg := f139) (hw := Sg.wy (d := 165) rfl rfl rfl) (h := ?_)
  refine Sg.bin (v3 := .bool false) (hw := Sg.wy (d := 165) rfl rfl rfl) (hv := fun w_ x_ y_ => (g3neqD _ _ _ _ w_ x_ y_).trans (by simp)) (h := ?_)
  refine Sg.pk (v := .bool false) (h := ?_)
  refine Sg.mv (v := .bool false) (h := ?_)
  refine Sg.mv (v := .slice A67 whose.length c68) (hw := Sg.wy (d := 170) rfl rfl rfl) (h := ?_)
  refine Sg.mv (v := .slice A88 whose.length c89) (hw := Sg.wy (d := 170) rfl rfl rfl) (h := ?_)
  refine Sg.cl (args := #[.slice A67 whose.length c68, .slice A88 whose.length c89]) (hf := Try.func14) (hw := Sg.wy (d := 170) rfl rfl rfl) (hargs := Sg.a2 (Sg.rs rfl rfl) (Sg.rs rfl rfl)) (h := ?_)
  have f140 := Kd.C_below f69 (below_step (below_step (below_step (below_step (below_step (below_step (below_step q81 b85) q102) b106) b116) b126) b130) b136)
  have f141 := Kd.C_below f90 (below_step (below_step (below_step (below_step (below_step q102 b106) b116) b126) b130) b136)
  refine (laws_gSame.calls k A67 c68 whose A88 c89 whose true _ f140 f70 f141 f91 hW2).mono ?_
  rintro _ w142 ⟨rfl, d144⟩
  have b143 := d144.below
  refine ⟨_, _, rfl, (Sg.ps rfl), ?_⟩
  refine Sg.nt (b := true) (hw := Sg.wy (d := 170) rfl rfl rfl) (h := ?_)
  refine Sg.pk (v := .bool false) (h := ?_)
  refine Sg.mv (v := .bool false) (h := ?_)
  refine Sg.mv (v := .bool three) (hw := Sg.wy (d := 176) rfl rfl rfl) (h := ?_)
  refine Sg.mv (v := .bool three) (hw := Sg.wy (d := 176) rfl rfl rfl) (h := ?_)
  refine Sg.bneq (c := false) (hu := Try.underlying4) (hw := Sg.wy (d := 176) rfl rfl rfl) (h := ?_)
  refine Sg.pk (v := .bool false) (h := ?_)
  refine Sg.mv (v := .bool false) (h := ?_)
  refine Sg.mv (v := .slice A109 ages.length c110) (hw := Sg.wy (d := 181) rfl rfl rfl) (h := ?_)
  refine Sg.mv (v := .slice A119 ages.length c120) (hw := Sg.wy (d := 181) rfl rfl rfl) (h := ?_)
  refine Sg.cl (args := #[.slice A109 ages.length c110, .slice A119 ages.length c120]) (hf := Try.func14) (hw := Sg.wy (d := 181) rfl rfl rfl) (hargs := Sg.a2 (Sg.rs rfl rfl) (Sg.rs rfl rfl)) (h := ?_)
  have f145 := Kd.C_below f111 (below_step (below_step (below_step (below_step b116 b126) b130) b136) b143)
  have f146 := Kd.C_below f121 (below_step (below_step (below_step b126 b130) b136) b143)
  refine (laws_gSame.calls k A109 c110 ages A119 c120 ages true _ f145 f112 f146 f122 hW3).mono ?_
  rintro _ w147 ⟨rfl, d149⟩
  have b148 := d149.below
  refine ⟨_, _, rfl, (Sg.ps rfl), ?_⟩
  refine Sg.nt (b := true) (hw := Sg.wy (d := 181) rfl rfl rfl) (h := ?_)
  refine Sg.pk (v := .bool false) (h := ?_)
  refine Sg.mv (v := .bool false) (h := ?_)
  refine Sg.mv (v := .bool three) (hw := Sg.wy (d := 187) rfl rfl rfl) (h := ?_)
  refine Sg.mv (v := .bool three) (hw := Sg.wy (d := 187) rfl rfl rfl) (h := ?_)
  refine Sg.bneq (c := false) (hu := Try.underlying4) (hw := Sg.wy (d := 187) rfl rfl rfl) (h := ?_)
  refine Sg.pk (v := .bool false) (h := ?_)
  refine Sg.mv (v := .bool false) (h := ?_)
  refine Sg.mv (v := .int .i64 sum) (hw := Sg.wy (d := 192) rfl rfl rfl) (h := ?_)
  refine Sg.mv (v := .int .i64 sum) (hw := Sg.wy (d := 192) rfl rfl rfl) (h := ?_)
  refine Sg.ineq (c := false) (hw := Sg.wy (d := 192) rfl rfl rfl) (h := ?_)
  refine Sg.pk (v := .bool false) (h := ?_)
  refine Sg.mv (v := .bool false) (h := ?_)
  refine Sg.mv (v := .bool three) (hw := Sg.wy (d := 197) rfl rfl rfl) (h := ?_)
  refine Sg.mv (v := .bool three) (hw := Sg.wy (d := 197) rfl rfl rfl) (h := ?_)
  refine Sg.bneq (c := false) (hu := Try.underlying4) (hw := Sg.wy (d := 197) rfl rfl rfl) (h := ?_)
  refine Sg.pk (v := .bool false) (h := ?_)
  refine Sg.mv (v := .bool false) (h := ?_)
  refine Sg.mv (v := .bool ok) (hw := Sg.wy (d := 202) rfl rfl rfl) (h := ?_)
  refine Sg.mv (v := .bool ok) (hw := Sg.wy (d := 202) rfl rfl rfl) (h := ?_)
  cases ok
  ·skip
   refine Sg.off (hw := Sg.yl (d := 204) rfl rfl rfl) (hb := rfl) (h := ?_)
   refine Sg.off (hw := Sg.yl (d := 204) rfl rfl rfl) (hb := rfl) (h := ?_)
   refine Sg.pk (v := .bool false) (hw := Sg.wy (d := 202) rfl rfl rfl) (h := ?_)
   refine Sg.pk (v := .bool false) (h := ?_)
   refine Sg.mv (v := .bool false) (h := ?_)
   refine Sg.mv (v := .bool one) (hw := Sg.wy (d := 209) rfl rfl rfl) (h := ?_)
   refine Sg.mv (v := .bool one) (hw := Sg.wy (d := 209) rfl rfl rfl) (h := ?_)
   cases one
   ·skip
    refine Sg.off (hw := Sg.yl (d := 211) rfl rfl rfl) (hb := rfl) (h := ?_)
    refine Sg.off (hw := Sg.yl (d := 211) rfl rfl rfl) (hb := rfl) (h := ?_)
    refine Sg.pk (v := .bool false) (hw := Sg.wy (d := 209) rfl rfl rfl) (h := ?_)
    refine Sg.pk (v := .bool false) (h := ?_)
    first | refine Sg.nl ?_ | refine Sg.nl1 ?_
    refine Sg.cf rfl rfl ?_
    first | refine Sg.sk ?_ | refine Sg.sk1 ?_
    refine Sg.gn fun τ10 => ?_
    have f150 := Kd.C_below f128 (below_step (below_step (below_step b130 b136) b143) b148)
    have f151 := Kd.C_below f133 (below_step (below_step b136 b143) b148)
    have f152 := Kd.C_below f140 (below_step b143 b148)
    have f153 := Kd.C_below f145 b148
    have f154 := blk_below f127 (below_step (below_step (below_step b130 b136) b143) b148)
    have f155 := blk_below f131 (below_step (below_step b136 b143) b148)
    have f156 := blk_below f138 (below_step b143 b148)
    exact hK _ _ _ ⟨A5, c6, g9, g29, A25, c26, g71, A67, c68, A109, c110, ⟨rfl, rfl, rfl, rfl, rfl, rfl, rfl, rfl, rfl, rfl, rfl⟩, ⟨f150, f8⟩, f154, f155, ⟨f151, f28⟩, f156, ⟨f152, f70⟩, f153, f112⟩ rfl (below_step (below_step (below_step (below_step (below_step (below_step (below_step (below_step (below_step (below_step (below_step (below_step (below_step (below_step (below_step (below_step b2 q19) b22) q39) b43) q60) b64) q81) b85) q102) b106) b116) b126) b130) b136) b143) b148)
   ·skip
    obtain rfl : three = true := hWT rfl
    refine Sg.mv (v := .bool true) (hw := Sg.wy (d := 211) rfl rfl rfl) (h := ?_)
    refine Sg.nt (b := true) (hw := Sg.wy (d := 211) rfl rfl rfl) (h := ?_)
    refine Sg.pk (v := .bool false) (hw := Sg.wy (d := 209) rfl rfl rfl) (h := ?_)
    refine Sg.pk (v := .bool false) (h := ?_)
    first | refine Sg.nl ?_ | refine Sg.nl1 ?_
    refine Sg.cf rfl rfl ?_
    first | refine Sg.sk ?_ | refine Sg.sk1 ?_
    refine Sg.gn fun τ10 => ?_
    have f157 := Kd.C_below f128 (below_step (below_step (below_step b130 b136) b143) b148)
    have f158 := Kd.C_below f133 (below_step (below_step b136 b143) b148)
    have f159 := Kd.C_below f140 (below_step b143 b148)
    have f160 := Kd.C_below f145 b148
    have f161 := blk_below f127 (below_step (below_step (below_step b130 b136) b143) b148)
    have f162 := blk_below f131 (below_step (below_step b136 b143) b148)
    have f163 := blk_below f138 (below_step b143 b148)
    exact hK _ _ _ ⟨A5, c6, g9, g29, A25, c26, g71, A67, c68, A109, c110, ⟨rfl, rfl, rfl, rfl, rfl, rfl, rfl, rfl, rfl, rfl, rfl⟩, ⟨f157, f8⟩, f161, f162, ⟨f158, f28⟩, f163, ⟨f159, f70⟩, f160, f112⟩ rfl (below_step (below_step (below_step (below_step (below_step (below_step (below_step (below_step (below_step (below_step (below_step (below_step (below_step (below_step (below_step (below_step b2 q19) b22) q39) b43) q60) b64) q81) b85) q102) b106) b116) b126) b130) b136) b143) b148)
  ·skip
   obtain rfl : three = true := hOT rfl
   refine Sg.mv (v := .bool true) (hw := Sg.wy (d := 204) rfl rfl rfl) (h := ?_)
   refine Sg.nt (b := true) (hw := Sg.wy (d := 204) rfl rfl rfl) (h := ?_)
   refine Sg.pk (v := .bool false) (hw := Sg.wy (d := 202) rfl rfl rfl) (h := ?_)
   refine Sg.pk (v := .bool false) (h := ?_)
   refine Sg.mv (v := .bool false) (h := ?_)
   refine Sg.mv (v := .bool one) (hw := Sg.wy (d := 209) rfl rfl rfl) (h := ?_)
   refine Sg.mv (v := .bool one) (hw := Sg.wy (d := 209) rfl rfl rfl) (h := ?_)
   cases one
   ·skip
    refine Sg.off (hw := Sg.yl (d := 211) rfl rfl rfl) (hb := rfl) (h := ?_)
    refine Sg.off (hw := Sg.yl (d := 211) rfl rfl rfl) (hb := rfl) (h := ?_)
    refine Sg.pk (v := .bool false) (hw := Sg.wy (d := 209) rfl rfl rfl) (h := ?_)
    refine Sg.pk (v := .bool false) (h := ?_)
    first | refine Sg.nl ?_ | refine Sg.nl1 ?_
    refine Sg.cf rfl rfl ?_
    first | refine Sg.sk ?_ | refine Sg.sk1 ?_
    refine Sg.gn fun τ10 => ?_
    have f164 := Kd.C_below f128 (below_step (below_step (below_step b130 b136) b143) b148)
    have f165 := Kd.C_below f133 (below_step (below_step b136 b143) b148)
    have f166 := Kd.C_below f140 (below_step b143 b148)
    have f167 := Kd.C_below f145 b148
    have f168 := blk_below f127 (below_step (below_step (below_step b130 b136) b143) b148)
    have f169 := blk_below f131 (below_step (below_step b136 b143) b148)
    have f170 := blk_below f138 (below_step b143 b148)
    exact hK _ _ _ ⟨A5, c6, g9, g29, A25, c26, g71, A67, c68, A109, c110, ⟨rfl, rfl, rfl, rfl, rfl, rfl, rfl, rfl, rfl, rfl, rfl⟩, ⟨f164, f8⟩, f168, f169, ⟨f165, f28⟩, f170, ⟨f166, f70⟩, f167, f112⟩ rfl (below_step (below_step (below_step (below_step (below_step (below_step (below_step (below_step (below_step (below_step (below_step (below_step (below_step (below_step (below_step (below_step b2 q19) b22) q39) b43) q60) b64) q81) b85) q102) b106) b116) b126) b130) b136) b143) b148)
   ·skip
    refine Sg.mv (v := .bool true) (hw := Sg.wy (d := 211) rfl rfl rfl) (h := ?_)
    refine Sg.nt (b := true) (hw := Sg.wy (d := 211) rfl rfl rfl) (h := ?_)
    refine Sg.pk (v := .bool false) (hw := Sg.wy (d := 209) rfl rfl rfl) (h := ?_)
    refine Sg.pk (v := .bool false) (h := ?_)
    first | refine Sg.nl ?_ | refine Sg.nl1 ?_
    refine Sg.cf rfl rfl ?_
    first | refine Sg.sk ?_ | refine Sg.sk1 ?_
    refine Sg.gn fun τ10 => ?_
    have f171 := Kd.C_below f128 (below_step (below_step (below_step b130 b136) b143) b148)
    have f172 := Kd.C_below f133 (below_step (below_step b136 b143) b148)
    have f173 := Kd.C_below f140 (below_step b143 b148)
    have f174 := Kd.C_below f145 b148
    have f175 := blk_below f127 (below_step (below_step (below_step b130 b136) b143) b148)
    have f176 := blk_below f131 (below_step (below_step b136 b143) b148)
    have f177 := blk_below f138 (below_step b143 b148)
    exact hK _ _ _ ⟨A5, c6, g9, g29, A25, c26, g71, A67, c68, A109, c110, ⟨rfl, rfl, rfl, rfl, rfl, rfl, rfl, rfl, rfl, rfl, rfl⟩, ⟨f171, f8⟩, f175, f176, ⟨f172, f28⟩, f177, ⟨f173, f70⟩, f174, f112⟩ rfl (below_step (below_step (below_step (below_step (below_step (below_step (below_step (below_step (below_step (below_step (below_step (below_step (below_step (below_step (below_step (below_step b2 q19) b22) q39) b43) q60) b64) q81) b85) q102) b106) b116) b126) b130) b136) b143) b148)
theorem g3p3 (k : Nat) (B : List S26) (o0 o1 n0 n1 : Int) (who : List Int) (ok : Bool) (m0 m1 : Int) (whose : List Int) (one : Bool) (ages : List Int) (three : Bool) (sum : Int) (σ τ : Sg.Fr) (w : World) {rest : Code} {Q : Exit → Act → World → Prop} (hQp : ∀ c (a : Act) d v w, Q (.panic c) (a.put d v) w → Q (.panic c) a w) (hSt : g3St1 B o0 o1 n0 n1 who ok m0 m1 whose one ages three sum σ w) (hB : B.length ≤ 1048576)
    (hlen : three = true → ages.length = B.length) (hsum : three = true → laws_gSum.f k ages = some sum)
    (heach : three = true → ∀ i : Nat, i < ages.length → ∃ days, impl_AgeOn.f k (rd_T26 B (i : Int)).f0 (rd_T26 B (i : Int)).f1 o0 o1 = some (rd ages (i : Int), true) ∧ 0 ≤ rd ages (i : Int) ∧ impl_DaysOld.f k (rd_T26 B (i : Int)).f0 (rd_T26 B (i : Int)).f1 o0 o1 = some (days, true) ∧ wrap64 (Int.tdiv days 365) = rd ages (i : Int))
    (hK : ∀ σ' τ' w', (∀ j, j < 27 → σ' j = σ j) → Below w.heap.size w w' → rest.wp Try.prog Q (Sg.fr 674 (Sg.mix 86 σ' τ')) w') :
    (Code.seq (g3S 12) rest).wp Try.prog Q (Sg.fr 674 (Sg.mix 86 σ τ)) w := by
  obtain ⟨A5, c5, g6, g7, A8, c8, g13, A14, c14, A19, c19, ⟨h5, h6, h7, h8, h9, h13, h14, h15, h19, h20, h23⟩, ⟨q1, q2⟩, q3, q4, ⟨q5, q6⟩, q7, ⟨q8, q9⟩, q10, q11⟩ := hSt
  refine Sg.sq ?_
  refine Sg.sq ?_
  refine Sg.rg ?_
  refine Sg.mv (v := .bool three) (hs := Sg.rs rfl h20) (h := ?_)
  first | refine Sg.nl ?_ | refine Sg.nl1 ?_
  cases three
  ·skip
   refine Sg.cf rfl rfl ?_
   first | refine Sg.sk ?_ | refine Sg.sk1 ?_
   exact hK _ _ _ (fun _ _ => rfl) (Below.refl _ _)
  ·skip
   refine Sg.ct rfl rfl ?_
   refine Sg.sq ?_
   refine Sg.sq ?_
   refine Sg.rg ?_
   refine Sg.mv (v := .slice A19 ages.length c19) (hs := Sg.rs rfl h19) (h := ?_)
   refine Sg.len (hu := by first | exact Try.underlying22 | exact Try.underlying24 | exact Try.underlying29) (h := ?_)
   refine Sg.mv (v := .slice A5 B.length c5) (hs := Sg.rs rfl h5) (h := ?_)
   refine Sg.len (hu := by first | exact Try.underlying22 | exact Try.underlying24 | exact Try.underlying29) (h := ?_)
   refine Sg.ineq (c := false) (hc := iff_of_false (by rw [hlen rfl]; simp) Bool.false_ne_true) (h := ?_)
   refine Sg.mv (v := .bool false) (h := ?_)
   refine Sg.mv (v := .slice A19 ages.length c19) (hw := Sg.wy (d := 222) rfl rfl rfl) (hs := Sg.rs rfl h19) (h := ?_)
   refine Sg.cl (args := #[.slice A19 ages.length c19]) (hf := Try.func15) (hw := Sg.wy (d := 222) rfl rfl rfl) (hargs := Sg.a1 (Sg.rs rfl rfl)) (h := ?_)
   refine (laws_gSum.calls k A19 c19 ages sum _ q10 q11 (hsum rfl)).mono ?_
   rintro _ w1 ⟨rfl, d3⟩
   have b2 := d3.below
   refine ⟨_, _, rfl, (Sg.ps rfl), ?_⟩
   refine Sg.mv (v := .int .i64 sum) (hw := Sg.wy (d := 222) rfl rfl rfl) (hs := Sg.rs rfl h23) (h := ?_)
   refine Sg.ineq (c := false) (hw := Sg.wy (d := 222) rfl rfl rfl) (h := ?_)
   refine Sg.pk (v := .bool false) (h := ?_)
   first | refine Sg.nl ?_ | refine Sg.nl1 ?_
   refine Sg.cf rfl rfl ?_
   first | refine Sg.sk ?_ | refine Sg.sk1 ?_
   refine Sg.sq ?_
   refine Sg.rg ?_
   refine Sg.mv (v := .slice A19 ages.length c19) (hs := Sg.rs rfl h19) (h := ?_)
   refine Sg.len (hu := by first | exact Try.underlying22 | exact Try.underlying24 | exact Try.underlying29) (h := ?_)
   refine Sg.mv (v := .int .i64 0) (h := ?_)
   first | refine Sg.nl ?_ | refine Sg.nl1 ?_
   refine Sg.gs fun σ4 hσ5 => ?_
   have f6 := Kd.C_below q1 b2
   have f7 := Kd.C_below q10 b2
   have f8 := blk_below q3 b2
   refine Sg.bl ?_
   refine Sg.lp (ages.length) (fun i σ' τ' w' => (∀ j, j < 27 → σ' j = σ4 j) ∧ τ' 228 = .slice A19 ages.length c19 ∧ τ' 229 = .int .i64 ((ages.length : Nat) : Int) ∧ τ' 230 = .int .i64 ((i : Nat) : Int) ∧ Below w1.heap.size w1 w') 0 (Nat.zero_le _) ⟨fun _ _ => rfl, rfl, rfl, rfl, Below.refl _ _⟩ ?_
   rintro i σ9 τ10 w11 hi ⟨s12, t14, t15, t16, b13⟩ K1 hK1
   by_cases hlt : i < ages.length
   ·skip
    refine Sg.sq ?_
    refine Sg.rg ?_
    refine Sg.ilss (c := true) (hx := Sg.rs rfl t16) (hy := Sg.rs rfl t15) (hc := iff_of_true (by omega) rfl) (h := ?_)
    first | refine Sg.nl ?_ | refine Sg.nl1 ?_
    refine Sg.sq ?_
    refine Sg.ct rfl rfl ?_
    first | refine Sg.sk ?_ | refine Sg.sk1 ?_
    refine Sg.sq ?_
    refine Sg.bl ?_
    obtain ⟨days, e1, e2, e3, e4⟩ := heach rfl i hlt
    have h0i : (0 : Int) ≤ ((i : Nat) : Int) := Int.natCast_nonneg i
    have h1i : ((i : Nat) : Int) < ((B.length : Nat) : Int) := by have := hlen rfl; omega
    have h2i : ((i : Nat) : Int) < ((ages.length : Nat) : Int) := by omega
    have hbn : i < 1048576 := by have := hlen rfl; omega
    have f17 := Kd.C_below f7 b13
    obtain ⟨ad18, hA19, hc20⟩ := Kd.at_int f17 ((i : Nat) : Int) h0i h2i
    have f21 := Kd.C_below f6 b13
    obtain ⟨ad22, hA23, hc24, hc25⟩ := at_T26 f21 ((i : Nat) : Int) h0i h1i
    refine Sg.sq ?_
    refine Sg.rg ?_
    refine Sg.mv (v := .int .i64 ((i : Nat) : Int)) (hs := Sg.rs rfl t16) (h := ?_)
    refine Sg.yy (hy := Sg.Xixa (sz := 1) (i := ((i : Nat) : Int)) (hu := Try.underlying29) (hsz := by kernel_rfl) (h0 := h0i) (h1 := h2i) (had := by rw [Nat.mul_one]) (ho := rfl) (hx := Sg.rs rfl (t14.trans (congrArg (fun a_ => Value.slice a_ ages.length c19) hA19))) (hy := Sg.rs rfl t16)) (h := ?_)
    refine Sg.yy (hy := Sg.Xldi (hu := Try.underlying3) (hc := hc20)) (h := ?_)
    refine Sg.asg (v := .int .i64 ((i : Nat) : Int)) (h := ?_)
    refine Sg.asg (v := .int .i64 (rd ages ((i : Nat) : Int))) (h := ?_)
    first | refine Sg.nl ?_ | refine Sg.nl1 ?_
    refine Sg.sq ?_
    have f28 := blk_below q7 (below_step b2 b13)
    have f29 := blk_below f8 b13
    have f30 := blk_below q4 (below_step b2 b13)
    refine Sg.da (k := 11) (h := fun w26 b27 => ?_)
    refine Sg.dv (i := 0) (hi := rfl) (hy := fun _ => (Sg.Xmv (v := .slice A5 B.length c5) (ho := rfl) (hs := Sg.rs rfl ((s12 5 (by decide)).trans ((congrFun hσ5 5).trans h5))))) (h := ?_)
    refine Sg.dv (i := 1) (hi := rfl) (hy := fun _ => (Sg.Xmv (v := .int .i64 ((i : Nat) : Int)))) (h := ?_)
    refine Sg.dv (i := 2) (hi := rfl) (hy := fun _ => (Sg.Xixa (sz := 2) (i := ((i : Nat) : Int)) (hu := Try.underlying24) (hsz := by kernel_rfl) (h0 := h0i) (h1 := h1i) (had := rfl) (ho := rfl) (hx := Sg.rs rfl (congrArg (fun a_ => Value.slice a_ B.length c5) hA23)))) (h := ?_)
    refine Sg.dt (i := 3) (hi := rfl) (hb := b27) (hy := fun w_ b_ => (Sg.Xld2 (hu := Try.underlying26) (hd := rfl) (hi := by kernel_rfl) (h1 := pw_cell_below b_ hc24 ) (h2 := pw_cell_below b_ hc25 ))) (h := ?_)
    refine Sg.dt (i := 4) (hi := rfl) (hb := b27) (hy := fun w_ b_ => (Sg.Xldr (hu := Try.underlying26) (hd := rfl) (hi := by kernel_rfl) (ho := rfl) (hx := Sg.rs rfl ((s12 6 (by decide)).trans ((congrFun hσ5 6).trans h6))) (hg := blk_below f29 b_ ))) (h := ?_)
    refine Sg.dc (i := 5) (args := #[.agg #[.int .i64 ((rd_T26 B ((i : Nat) : Int)).f0), .int .i64 ((rd_T26 B ((i : Nat) : Int)).f1)], .agg #[.int .i64 o0, .int .i64 o1]]) (hi := rfl) (hop := rfl) (hf := Try.func16) (hargs := Sg.a2 (Sg.rs rfl rfl) (Sg.rs rfl rfl)) (h := ?_)
    refine (impl_AgeOn.calls k ((rd_T26 B ((i : Nat) : Int)).f0) ((rd_T26 B ((i : Nat) : Int)).f1) o0 o1 (rd ages ((i : Nat) : Int)) true _ e1).mono ?_
    rintro _ w31 ⟨rfl, b32⟩
    refine ⟨_, _, rfl, (Sg.ps rfl), (below_step b27 b32), ?_⟩
    refine Sg.dv (i := 6) (hi := rfl) (hy := fun _ => (Sg.Xmv (v := .tuple #[.int .i64 (rd ages ((i : Nat) : Int)), .bool true]))) (h := ?_)
    refine Sg.dv (i := 7) (hi := rfl) (hy := fun _ => (Sg.Xext (v := .int .i64 (rd ages ((i : Nat) : Int))))) (h := ?_)
    refine Sg.dv (i := 8) (hi := rfl) (hy := fun _ => (Sg.Xext (v := .bool true))) (h := ?_)
    refine Sg.dv (i := 9) (hi := rfl) (hy := fun _ => (Sg.Xasg (v := .int .i64 (rd ages ((i : Nat) : Int))))) (h := ?_)
    refine Sg.dv (i := 10) (hi := rfl) (hy := fun _ => (Sg.Xasg (v := .bool true))) (h := ?_)
    first | refine Sg.dend (h := ?_) | refine Sg.dend1 (h := ?_)
    refine Sg.sq ?_
    have f35 := blk_below f28 (below_step b27 b32)
    have f36 := blk_below f29 (below_step b27 b32)
    have f37 := blk_below f30 (below_step b27 b32)
    have f38 := pw_cell_below (below_step b27 b32) hc25
    have f39 := pw_cell_below (below_step b27 b32) hc20
    have f40 := pw_cell_below (below_step b27 b32) hc24
    refine Sg.da (k := 11) (h := fun w33 b34 => ?_)
    refine Sg.dv (i := 0) (hi := rfl) (hy := fun _ => (Sg.Xmv (v := .slice A5 B.length c5) (ho := rfl) (hs := Sg.rs rfl ((s12 5 (by decide)).trans ((congrFun hσ5 5).trans h5))))) (h := ?_)
    refine Sg.dv (i := 1) (hi := rfl) (hy := fun _ => (Sg.Xmv (v := .int .i64 ((i : Nat) : Int)))) (h := ?_)
    refine Sg.dv (i := 2) (hi := rfl) (hy := fun _ => (Sg.Xixa (sz := 2) (i := ((i : Nat) : Int)) (hu := Try.underlying24) (hsz := by kernel_rfl) (h0 := h0i) (h1 := h1i) (had := rfl) (ho := rfl) (hx := Sg.rs rfl (congrArg (fun a_ => Value.slice a_ B.length c5) hA23)))) (h := ?_)
    refine Sg.dt (i := 3) (hi := rfl) (hb := b34) (hy := fun w_ b_ => (Sg.Xld2 (hu := Try.underlying26) (hd := rfl) (hi := by kernel_rfl) (h1 := pw_cell_below b_ f40 ) (h2 := pw_cell_below b_ f38 ))) (h := ?_)
    refine Sg.dt (i := 4) (hi := rfl) (hb := b34) (hy := fun w_ b_ => (Sg.Xldr (hu := Try.underlying26) (hd := rfl) (hi := by kernel_rfl) (ho := rfl) (hx := Sg.rs rfl ((s12 6 (by decide)).trans ((congrFun hσ5 6).trans h6))) (hg := blk_below f36 b_ ))) (h := ?_)
    refine Sg.dc (i := 5) (args := #[.agg #[.int .i64 ((rd_T26 B ((i : Nat) : Int)).f0), .int .i64 ((rd_T26 B ((i : Nat) : Int)).f1)], .agg #[.int .i64 o0, .int .i64 o1]]) (hi := rfl) (hop := rfl) (hf := Try.func17) (hargs := Sg.a2 (Sg.rs rfl rfl) (Sg.rs rfl rfl)) (h := ?_)
    refine (impl_DaysOld.calls k ((rd_T26 B ((i : Nat) : Int)).f0) ((rd_T26 B ((i : Nat) : Int)).f1) o0 o1 days true _ e3).mono ?_
    rintro _ w41 ⟨rfl, b42⟩
    refine ⟨_, _, rfl, (Sg.ps rfl), (below_step b34 b42), ?_⟩
    refine Sg.dv (i := 6) (hi := rfl) (hy := fun _ => (Sg.Xmv (v := .tuple #[.int .i64 days, .bool true]))) (h := ?_)
    refine Sg.dv (i := 7) (hi := rfl) (hy := fun _ => (Sg.Xext (v := .int .i64 days))) (h := ?_)
    refine Sg.dv (i := 8) (hi := rfl) (hy := fun _ => (Sg.Xext (v := .bool true))) (h := ?_)
    refine Sg.dv (i := 9) (hi := rfl) (hy := fun _ => (Sg.Xasg (v := .int .i64 days))) (h := ?_)
    refine Sg.dv (i := 10) (hi := rfl) (hy := fun _ => (Sg.Xasg (v := .bool true))) (h := ?_)
    first | refine Sg.dend (h := ?_) | refine Sg.dend1 (h := ?_)
    refine Sg.sq ?_
    refine Sg.rg ?_
    refine Sg.mv (v := .bool true) (h := ?_)
    refine Sg.nt (b := true) (h := ?_)
    refine Sg.mv (v := .bool false) (h := ?_)
    refine Sg.mv (v := .int .i64 (rd ages ((i : Nat) : Int))) (hw := Sg.wy (d := 255) rfl rfl rfl) (h := ?_)
    refine Sg.mv (v := .int .i64 (rd ages ((i : Nat) : Int))) (hw := Sg.wy (d := 255) rfl rfl rfl) (h := ?_)
    refine Sg.ineq (c := false) (hw := Sg.wy (d := 255) rfl rfl rfl) (h := ?_)
    refine Sg.pk (v := .bool false) (h := ?_)
    refine Sg.mv (v := .bool false) (h := ?_)
    refine Sg.mv (v := .int .i64 (rd ages ((i : Nat) : Int))) (hw := Sg.wy (d := 260) rfl rfl rfl) (h := ?_)
    refine Sg.ilss (c := false) (hw := Sg.wy (d := 260) rfl rfl rfl) (hc := iff_of_false (by omega) Bool.false_ne_true) (h := ?_)
    refine Sg.pk (v := .bool false) (h := ?_)
    refine Sg.mv (v := .bool false) (h := ?_)
    refine Sg.mv (v := .bool true) (hw := Sg.wy (d := 264) rfl rfl rfl) (h := ?_)
    refine Sg.nt (b := true) (hw := Sg.wy (d := 264) rfl rfl rfl) (h := ?_)
    refine Sg.pk (v := .bool false) (h := ?_)
    refine Sg.mv (v := .bool false) (h := ?_)
    refine Sg.mv (v := .int .i64 days) (hw := Sg.wy (d := 268) rfl rfl rfl) (h := ?_)
    refine Sg.iquo (c := rd ages ((i : Nat) : Int)) (hw := Sg.wy (d := 268) rfl rfl rfl) (hb := by decide) (hc := e4) (h := ?_)
    refine Sg.mv (v := .int .i64 (rd ages ((i : Nat) : Int))) (hw := Sg.wy (d := 268) rfl rfl rfl) (h := ?_)
    refine Sg.ineq (c := false) (hw := Sg.wy (d := 268) rfl rfl rfl) (h := ?_)
    refine Sg.pk (v := .bool false) (h := ?_)
    first | refine Sg.nl ?_ | refine Sg.nl1 ?_
    refine Sg.cf rfl rfl ?_
    first | refine Sg.sk ?_ | refine Sg.sk1 ?_
    refine Sg.rg ?_
    refine Sg.iadd (c := ((i + 1 : Nat) : Int)) (hx := Sg.rs rfl t16) (hc := by unfold wrap64; omega) (h := ?_)
    refine Sg.mv (v := .int .i64 ((i + 1 : Nat) : Int)) (h := ?_)
    first | refine Sg.nl ?_ | refine Sg.nl1 ?_
    exact hK1 _ _ _ hlt ⟨fun j hj => (by simp only [Sg.upd]; rw [if_neg (by omega), if_neg (by omega), if_neg (by omega), if_neg (by omega), if_neg (by omega), if_neg (by omega)]; exact s12 j hj), t14, t15, rfl, (below_step (below_step (below_step (below_step b13 b27) b32) b34) b42)⟩
   ·skip
    refine Sg.sq ?_
    refine Sg.rg ?_
    refine Sg.ilss (c := false) (hx := Sg.rs rfl t16) (hy := Sg.rs rfl t15) (hc := iff_of_false (by omega) Bool.false_ne_true) (h := ?_)
    first | refine Sg.nl ?_ | refine Sg.nl1 ?_
    refine Sg.sq ?_
    refine Sg.cf rfl rfl ?_
    refine Sg.ex0 ?_
    exact hK _ _ _ (fun j hj => (s12 j (by omega)).trans (by rw [hσ5])) (below_step b2 b13)
theorem g3p4 (k : Nat) (B : List S26) (o0 o1 n0 n1 : Int) (who : List Int) (ok : Bool) (m0 m1 : Int) (whose : List Int) (one : Bool) (ages : List Int) (three : Bool) (sum : Int) (σ τ : Sg.Fr) (w : World) {rest : Code} {Q : Exit → Act → World → Prop} (hQp : ∀ c (a : Act) d v w, Q (.panic c) (a.put d v) w → Q (.panic c) a w) (hSt : g3St1 B o0 o1 n0 n1 who ok m0 m1 whose one ages three sum σ w) (hB : B.length ≤ 1048576)
    (hok : ok = true → ∃ (then_ : List Int) (apart b0 b1 : Int), impl_BirthdaysBetween.f k B o0 o1 n0 n1 = some (((who.length : Nat) : Int), true) ∧ 1 ≤ who.length ∧ laws_gRises.f k who = some true ∧ impl_AgesOn.f k B n0 n1 = some (then_, true) ∧ impl_DaysApart.f k o0 o1 n0 n1 = some (apart, true) ∧ 1 ≤ apart ∧ apart ≤ 365 ∧ impl_AddDays.f k n0 n1 (-1) = some (b0, b1, true) ∧ impl_BirthdaysBetween.f k B o0 o1 b0 b1 = some (0, true) ∧ (then_.length = B.length ∧ ages.length = B.length) ∧
      ∀ i : Nat, i < B.length → ∃ has : Bool, laws_gHas.f k who (i : Int) = some has ∧ (has = true → wrap64 (rd ages (i : Int) + 1) = rd then_ (i : Int)) ∧ (has = false → rd then_ (i : Int) = rd ages (i : Int)))
    (hK : ∀ σ' τ' w', (∀ j, j < 33 → σ' j = σ j) → Below w.heap.size w w' → rest.wp Try.prog Q (Sg.fr 674 (Sg.mix 86 σ' τ')) w') :
    (Code.seq (g3S 13) rest).wp Try.prog Q (Sg.fr 674 (Sg.mix 86 σ τ)) w := by
  obtain ⟨A5, c5, g6, g7, A8, c8, g13, A14, c14, A19, c19, ⟨h5, h6, h7, h8, h9, h13, h14, h15, h19, h20, h23⟩, ⟨q1, q2⟩, q3, q4, ⟨q5, q6⟩, q7, ⟨q8, q9⟩, q10, q11⟩ := hSt
  refine Sg.sq ?_
  refine Sg.sq ?_
  refine Sg.rg ?_
  refine Sg.mv (v := .bool ok) (hs := Sg.rs rfl h9) (h := ?_)
  first | refine Sg.nl ?_ | refine Sg.nl1 ?_
  cases ok
  ·skip
   refine Sg.cf rfl rfl ?_
   first | refine Sg.sk ?_ | refine Sg.sk1 ?_
   exact hK _ _ _ (fun _ _ => rfl) (Below.refl _ _)
  ·skip
   obtain ⟨then_, apart, b0, b1, e1, e2, e3, e4, e5, e6, e7, e8, e9, e10, e11⟩ := hok rfl
   refine Sg.ct rfl rfl ?_
   refine Sg.sq ?_
   refine Sg.rg ?_
   refine Sg.mv (v := .slice A5 B.length c5) (hs := Sg.rs rfl h5) (h := ?_)
   refine Sg.ldr (hu := Try.underlying26) (hd := rfl) (hi := by kernel_rfl) (hg := q3) (hx := Sg.rs rfl h6) (h := ?_)
   refine Sg.ldr (hu := Try.underlying26) (hd := rfl) (hi := by kernel_rfl) (hg := q4) (hx := Sg.rs rfl h7) (h := ?_)
   refine Sg.cl (args := #[.slice A5 B.length c5, .agg #[.int .i64 o0, .int .i64 o1], .agg #[.int .i64 n0, .int .i64 n1]]) (hf := Try.func18) (hargs := Sg.a3 (Sg.rs rfl rfl) (Sg.rs rfl rfl) (Sg.rs rfl rfl)) (h := ?_)
   refine (impl_BirthdaysBetween.calls k A5 c5 B o0 o1 n0 n1 ((who.length : Nat) : Int) true _ q1 q2 e1).mono ?_
   rintro _ w1 ⟨rfl, b2⟩
   refine ⟨_, _, rfl, (Sg.ps rfl), ?_⟩
   refine Sg.mv (v := .tuple #[.int .i64 ((who.length : Nat) : Int), .bool true]) (h := ?_)
   refine Sg.ext (v := .int .i64 ((who.length : Nat) : Int)) (h := ?_)
   refine Sg.ext (v := .bool true) (h := ?_)
   refine Sg.asg (v := .int .i64 ((who.length : Nat) : Int)) (h := ?_)
   refine Sg.asg (v := .bool true) (h := ?_)
   first | refine Sg.nl ?_ | refine Sg.nl1 ?_
   refine Sg.sq ?_
   refine Sg.rg ?_
   refine Sg.mv (v := .slice A5 B.length c5) (hs := Sg.rs rfl h5) (h := ?_)
   have f3 := blk_below q4 b2
   refine Sg.ldr (hu := Try.underlying26) (hd := rfl) (hi := by kernel_rfl) (hg := f3) (hx := Sg.rs rfl h7) (h := ?_)
   refine Sg.cl (args := #[.slice A5 B.length c5, .agg #[.int .i64 n0, .int .i64 n1]]) (hf := Try.func10) (hargs := Sg.a2 (Sg.rs rfl rfl) (Sg.rs rfl rfl)) (h := ?_)
   have f4 := Kd.C_below q1 b2
   refine (impl_AgesOn.calls k A5 c5 B n0 n1 then_ true _ f4 q2 e4).mono ?_
   rintro _ w5 ⟨v7, rfl, r8, b6⟩
   obtain ⟨A9, c10, rfl⟩ := Kd.R_slice r8
   have f11 := (Kd.R_reads' r8).2.2
   have f12 := (Kd.R_reads' r8).2.1
   refine ⟨_, _, rfl, (Sg.ps rfl), ?_⟩
   refine Sg.mv (v := .tuple #[.slice A9 then_.length c10, .bool true]) (h := ?_)
   refine Sg.ext (v := .slice A9 then_.length c10) (h := ?_)
   refine Sg.ext (v := .bool true) (h := ?_)
   refine Sg.asg (v := .slice A9 then_.length c10) (h := ?_)
   refine Sg.asg (v := .bool true) (h := ?_)
   first | refine Sg.nl ?_ | refine Sg.nl1 ?_
   refine Sg.sq ?_
   refine Sg.rg ?_
   have f13 := blk_below q3 (below_step b2 b6)
   refine Sg.ldr (hu := Try.underlying26) (hd := rfl) (hi := by kernel_rfl) (hg := f13) (hx := Sg.rs rfl h6) (h := ?_)
   have f14 := blk_below f3 b6
   refine Sg.ldr (hu := Try.underlying26) (hd := rfl) (hi := by kernel_rfl) (hg := f14) (hx := Sg.rs rfl h7) (h := ?_)
   refine Sg.cl (args := #[.agg #[.int .i64 o0, .int .i64 o1], .agg #[.int .i64 n0, .int .i64 n1]]) (hf := Try.func19) (hargs := Sg.a2 (Sg.rs rfl rfl) (Sg.rs rfl rfl)) (h := ?_)
   refine (impl_DaysApart.calls k o0 o1 n0 n1 apart true _ e5).mono ?_
   rintro _ w15 ⟨rfl, b16⟩
   refine ⟨_, _, rfl, (Sg.ps rfl), ?_⟩
   refine Sg.mv (v := .tuple #[.int .i64 apart, .bool true]) (h := ?_)
   refine Sg.ext (v := .int .i64 apart) (h := ?_)
   refine Sg.ext (v := .bool true) (h := ?_)
   refine Sg.asg (v := .int .i64 apart) (h := ?_)
   refine Sg.asg (v := .bool true) (h := ?_)
   first | refine Sg.nl ?_ | refine Sg.nl1 ?_
   refine Sg.sq ?_
   refine Sg.rg ?_
   have f17 := blk_below f14 b16
   refine Sg.ldr (hu := Try.underlying26) (hd := rfl) (hi := by kernel_rfl) (hg := f17) (hx := Sg.rs rfl h7) (h := ?_)
   refine Sg.cl (args := #[.agg #[.int .i64 n0, .int .i64 n1], .int .i64 (-1)]) (hf := Try.func20) (hargs := Sg.a2 (Sg.rs rfl rfl) Sg.rc) (h := ?_)
   refine (impl_AddDays.calls k n0 n1 (-1) b0 b1 true _ e8).mono ?_
   rintro _ w18 ⟨rfl, b19⟩
   refine ⟨_, _, rfl, (Sg.ps rfl), ?_⟩
   refine Sg.mv (v := .tuple #[.agg #[.int .i64 b0, .int .i64 b1], .bool true]) (h := ?_)
   refine Sg.ext (v := .agg #[.int .i64 b0, .int .i64 b1]) (h := ?_)
   refine Sg.ext (v := .bool true) (h := ?_)
   refine Sg.alo (cs := #[.int .i64 0, .int .i64 0]) (t0 := 26) (hx := by first | (go_simp; done) | (go_simp; rfl)) (h := fun g20 w21 e22 x23 b24 => ⟨_, (Sg.pn rfl), ?_⟩)
   have l25 : w18.heap.size ≤ g20 := Nat.le_of_eq e22.symm
   refine Sg.sto (cs := #[.int .i64 b0, .int .i64 b1]) x23 (by kernel_rfl) rfl (by kernel_rfl) Sg.w0 (Sg.rs rfl rfl) (Sg.rs rfl rfl) (fun w26 x27 o28 k29 => ?_)
   have q30 := k29 _ _ l25 b24
   refine Sg.asg (v := .bool true) (h := ?_)
   first | refine Sg.nl ?_ | refine Sg.nl1 ?_
   refine Sg.sq ?_
   refine Sg.rg ?_
   refine Sg.mv (v := .slice A5 B.length c5) (hs := Sg.rs rfl h5) (h := ?_)
   have f31 := blk_below f13 (below_step (below_step b16 b19) q30)
   refine Sg.ldr (hu := Try.underlying26) (hd := rfl) (hi := by kernel_rfl) (hg := f31) (hx := Sg.rs rfl h6) (h := ?_)
   refine Sg.ldr (hu := Try.underlying26) (hd := rfl) (hi := by kernel_rfl) (hg := x27) (h := ?_)
   refine Sg.cl (args := #[.slice A5 B.length c5, .agg #[.int .i64 o0, .int .i64 o1], .agg #[.int .i64 b0, .int .i64 b1]]) (hf := Try.func18) (hargs := Sg.a3 (Sg.rs rfl rfl) (Sg.rs rfl rfl) (Sg.rs rfl rfl)) (h := ?_)
   have f32 := Kd.C_below f4 (below_step (below_step (below_step b6 b16) b19) q30)
   refine (impl_BirthdaysBetween.calls k A5 c5 B o0 o1 b0 b1 0 true _ f32 q2 e9).mono ?_
   rintro _ w33 ⟨rfl, b34⟩
   refine ⟨_, _, rfl, (Sg.ps rfl), ?_⟩
   refine Sg.mv (v := .tuple #[.int .i64 0, .bool true]) (h := ?_)
   refine Sg.ext (v := .int .i64 0) (h := ?_)
   refine Sg.ext (v := .bool true) (h := ?_)
   refine Sg.asg (v := .int .i64 0) (h := ?_)
   refine Sg.asg (v := .bool true) (h := ?_)
   first | refine Sg.nl ?_ | refine Sg.nl1 ?_
   refine Sg.sq ?_
   refine Sg.sq ?_
   refine Sg.rg ?_
   refine Sg.mv (v := .bool true) (h := ?_)
   refine Sg.nt (b := true) (h := ?_)
   refine Sg.mv (v := .bool false) (h := ?_)
   refine Sg.mv (v := .int .i64 ((who.length : Nat) : Int)) (hw := Sg.wy (d := 309) rfl rfl rfl) (h := ?_)
   refine Sg.mv (v := .slice A8 who.length c8) (hw := Sg.wy (d := 309) rfl rfl rfl) (hs := Sg.rs rfl h8) (h := ?_)
   refine Sg.len (hu := by first | exact Try.underlying22 | exact Try.underlying24 | exact Try.underlying29) (hw := Sg.wy (d := 309) rfl rfl rfl) (h := ?_)
   refine Sg.ineq (c := false) (hw := Sg.wy (d := 309) rfl rfl rfl) (h := ?_)
   refine Sg.pk (v := .bool false) (h := ?_)
   refine Sg.mv (v := .bool false) (h := ?_)
   refine Sg.mv (v := .int .i64 ((who.length : Nat) : Int)) (hw := Sg.wy (d := 315) rfl rfl rfl) (h := ?_)
   refine Sg.ilss (c := false) (hw := Sg.wy (d := 315) rfl rfl rfl) (hc := iff_of_false (by omega) Bool.false_ne_true) (h := ?_)
   refine Sg.pk (v := .bool false) (h := ?_)
   refine Sg.mv (v := .bool false) (h := ?_)
   refine Sg.mv (v := .slice A8 who.length c8) (hw := Sg.wy (d := 319) rfl rfl rfl) (hs := Sg.rs rfl h8) (h := ?_)
   refine Sg.cl (args := #[.slice A8 who.length c8]) (hf := Try.func21) (hw := Sg.wy (d := 319) rfl rfl rfl) (hargs := Sg.a1 (Sg.rs rfl rfl)) (h := ?_)
   have f35 := Kd.C_below q5 (below_step (below_step (below_step (below_step (below_step b2 b6) b16) b19) q30) b34)
   refine (laws_gRises.calls k A8 c8 who true _ f35 q6 e3).mono ?_
   rintro _ w36 ⟨rfl, d38⟩
   have b37 := d38.below
   refine ⟨_, _, rfl, (Sg.ps rfl), ?_⟩
   refine Sg.nt (b := true) (hw := Sg.wy (d := 319) rfl rfl rfl) (h := ?_)
   refine Sg.pk (v := .bool false) (h := ?_)
   refine Sg.mv (v := .bool false) (h := ?_)
   refine Sg.mv (v := .bool true) (hw := Sg.wy (d := 324) rfl rfl rfl) (h := ?_)
   refine Sg.nt (b := true) (hw := Sg.wy (d := 324) rfl rfl rfl) (h := ?_)
   refine Sg.pk (v := .bool false) (h := ?_)
   refine Sg.mv (v := .bool false) (h := ?_)
   refine Sg.mv (v := .bool true) (hw := Sg.wy (d := 328) rfl rfl rfl) (h := ?_)
   refine Sg.nt (b := true) (hw := Sg.wy (d := 328) rfl rfl rfl) (h := ?_)
   refine Sg.pk (v := .bool false) (h := ?_)
   refine Sg.mv (v := .bool false) (h := ?_)
   refine Sg.mv (v := .int .i64 apart) (hw := Sg.wy (d := 332) rfl rfl rfl) (h := ?_)
   refine Sg.ilss (c := false) (hw := Sg.wy (d := 332) rfl rfl rfl) (hc := iff_of_false (by omega) Bool.false_ne_true) (h := ?_)
   refine Sg.pk (v := .bool false) (h := ?_)
   refine Sg.mv (v := .bool false) (h := ?_)
   refine Sg.mv (v := .int .i64 apart) (hw := Sg.wy (d := 336) rfl rfl rfl) (h := ?_)
   refine Sg.igtr (c := false) (hw := Sg.wy (d := 336) rfl rfl rfl) (hc := iff_of_false (by omega) Bool.false_ne_true) (h := ?_)
   refine Sg.pk (v := .bool false) (h := ?_)
   refine Sg.mv (v := .bool false) (h := ?_)
   refine Sg.mv (v := .bool true) (hw := Sg.wy (d := 340) rfl rfl rfl) (h := ?_)
   refine Sg.nt (b := true) (hw := Sg.wy (d := 340) rfl rfl rfl) (h := ?_)
   refine Sg.pk (v := .bool false) (h := ?_)
   refine Sg.mv (v := .bool false) (h := ?_)
   refine Sg.mv (v := .bool true) (hw := Sg.wy (d := 344) rfl rfl rfl) (h := ?_)
   refine Sg.nt (b := true) (hw := Sg.wy (d := 344) rfl rfl rfl) (h := ?_)
   refine Sg.pk (v := .bool false) (h := ?_)
   refine Sg.mv (v := .bool false) (h := ?_)
   refine Sg.mv (v := .int .i64 0) (hw := Sg.wy (d := 348) rfl rfl rfl) (h := ?_)
   refine Sg.ineq (c := false) (hw := Sg.wy (d := 348) rfl rfl rfl) (h := ?_)
   refine Sg.pk (v := .bool false) (h := ?_)
   first | refine Sg.nl ?_ | refine Sg.nl1 ?_
   refine Sg.cf rfl rfl ?_
   first | refine Sg.sk ?_ | refine Sg.sk1 ?_
   refine Sg.sq ?_
   refine Sg.rg ?_
   refine Sg.mv (v := .slice A5 B.length c5) (hs := Sg.rs rfl h5) (h := ?_)
   refine Sg.len (hu := by first | exact Try.underlying22 | exact Try.underlying24 | exact Try.underlying29) (h := ?_)
   refine Sg.mv (v := .int .i64 0) (h := ?_)
   first | refine Sg.nl ?_ | refine Sg.nl1 ?_
   refine Sg.gs fun σ39 hσ40 => ?_
   have f41 := Kd.C_below f35 b37
   have f42 := Kd.C_below q10 (below_step (below_step (below_step (below_step (below_step (below_step b2 b6) b16) b19) q30) b34) b37)
   have f43 := Kd.C_below f11 (below_step (below_step (below_step (below_step b16 b19) q30) b34) b37)
   refine Sg.bl ?_
   refine Sg.lp (B.length) (fun i σ' τ' w' => (∀ j, j < 43 → σ' j = σ39 j) ∧ τ' 353 = .int .i64 ((B.length : Nat) : Int) ∧ τ' 354 = .int .i64 ((i : Nat) : Int) ∧ Below w36.heap.size w36 w') 0 (Nat.zero_le _) ⟨fun _ _ => rfl, rfl, rfl, Below.refl _ _⟩ ?_
   rintro i σ44 τ45 w46 hi ⟨s47, t49, t50, b48⟩ K1 hK1
   by_cases hlt : i < B.length
   ·skip
    refine Sg.sq ?_
    refine Sg.rg ?_
    refine Sg.ilss (c := true) (hx := Sg.rs rfl t50) (hy := Sg.rs rfl t49) (hc := iff_of_true (by omega) rfl) (h := ?_)
    first | refine Sg.nl ?_ | refine Sg.nl1 ?_
    refine Sg.sq ?_
    refine Sg.ct rfl rfl ?_
    first | refine Sg.sk ?_ | refine Sg.sk1 ?_
    refine Sg.sq ?_
    refine Sg.bl ?_
    obtain ⟨has, e12, h1, h2⟩ := e11 i hlt
    have h0i : (0 : Int) ≤ ((i : Nat) : Int) := Int.natCast_nonneg i
    have h1i : ((i : Nat) : Int) < ((then_.length : Nat) : Int) := by omega
    have h2i : ((i : Nat) : Int) < ((ages.length : Nat) : Int) := by omega
    have hbn : i < 1048576 := by omega
    have f51 := Kd.C_below f42 b48
    obtain ⟨ad52, hA53, hc54⟩ := Kd.at_int f51 ((i : Nat) : Int) h0i h2i
    have f55 := Kd.C_below f43 b48
    obtain ⟨ad56, hA57, hc58⟩ := Kd.at_int f55 ((i : Nat) : Int) h0i h1i
    cases has
    ·skip
     refine Sg.sq ?_
     refine Sg.rg ?_
     refine Sg.mv (v := .int .i64 ((i : Nat) : Int)) (hs := Sg.rs rfl t50) (h := ?_)
     refine Sg.asg (v := .int .i64 ((i : Nat) : Int)) (h := ?_)
     first | refine Sg.nl ?_ | refine Sg.nl1 ?_
     refine Sg.sq ?_
     have f61 := blk_below q7 (below_step (below_step (below_step (below_step (below_step (below_step (below_step b2 b6) b16) b19) q30) b34) b37) b48)
     have f62 := blk_below x27 (below_step (below_step b34 b37) b48)
     have f63 := blk_below f31 (below_step (below_step b34 b37) b48)
     have f64 := blk_below f17 (below_step (below_step (below_step (below_step b19 q30) b34) b37) b48)
     refine Sg.da (k := 32) (h := fun w59 b60 => ?_)
     refine Sg.dv (i := 0) (hi := rfl) (hy := fun _ => (Sg.Xmv (v := .slice A8 who.length c8) (ho := rfl) (hs := Sg.rs rfl ((s47 8 (by decide)).trans ((congrFun hσ40 8).trans h8))))) (h := ?_)
     refine Sg.dv (i := 1) (hi := rfl) (hy := fun _ => (Sg.Xmv (v := .int .i64 ((i : Nat) : Int)))) (h := ?_)
     refine Sg.dc (i := 2) (args := #[.slice A8 who.length c8, .int .i64 ((i : Nat) : Int)]) (hi := rfl) (hop := rfl) (hf := Try.func22) (hargs := Sg.a2 (Sg.rs rfl rfl) (Sg.rs rfl rfl)) (h := ?_)
     have f65 := Kd.C_below f41 (below_step b48 b60)
     refine (laws_gHas.calls k A8 c8 who ((i : Nat) : Int) false _ f65 q6 e12).mono ?_
     rintro _ w66 ⟨rfl, d68⟩
     have b67 := d68.below
     refine ⟨_, _, rfl, (Sg.ps rfl), (below_step b60 b67), ?_⟩
     refine Sg.dv (i := 3) (hi := rfl) (hy := fun _ => (Sg.Xmv (v := .bool false))) (h := ?_)
     refine Sg.doff (i := 4) (hi := rfl) (hg := rfl) (hw := Sg.yl (d := 360) rfl rfl rfl) (hb := rfl) (h := ?_)
     refine Sg.doff (i := 5) (hi := rfl) (hg := rfl) (hw := Sg.yl (d := 360) rfl rfl rfl) (hb := rfl) (h := ?_)
     refine Sg.doff (i := 6) (hi := rfl) (hg := rfl) (hw := Sg.yl (d := 360) rfl rfl rfl) (hb := rfl) (h := ?_)
     refine Sg.doff (i := 7) (hi := rfl) (hg := rfl) (hw := Sg.yl (d := 360) rfl rfl rfl) (hb := rfl) (h := ?_)
     refine Sg.doff (i := 8) (hi := rfl) (hg := rfl) (hw := Sg.yl (d := 360) rfl rfl rfl) (hb := rfl) (h := ?_)
     refine Sg.doff (i := 9) (hi := rfl) (hg := rfl) (hw := Sg.yl (d := 360) rfl rfl rfl) (hb := rfl) (h := ?_)
     refine Sg.doff (i := 10) (hi := rfl) (hg := rfl) (hw := Sg.yl (d := 360) rfl rfl rfl) (hb := rfl) (h := ?_)
     refine Sg.doff (i := 11) (hi := rfl) (hg := rfl) (hw := Sg.yl (d := 360) rfl rfl rfl) (hb := rfl) (h := ?_)
     refine Sg.doff (i := 12) (hi := rfl) (hg := rfl) (hw := Sg.yl (d := 360) rfl rfl rfl) (hb := rfl) (h := ?_)
     refine Sg.doff (i := 13) (hi := rfl) (hg := rfl) (hw := Sg.yl (d := 360) rfl rfl rfl) (hb := rfl) (h := ?_)
     refine Sg.dv (i := 14) (hi := rfl) (hy := fun _ => (Sg.Xpk (v := .bool false))) (h := ?_)
     refine Sg.dv (i := 15) (hi := rfl) (hy := fun _ => (Sg.Xmv (v := .bool false))) (h := ?_)
     refine Sg.dv (i := 16) (hi := rfl) (hy := fun _ => (Sg.Xmv (v := .slice A8 who.length c8) (ho := rfl) (hs := Sg.rs rfl ((s47 8 (by decide)).trans ((congrFun hσ40 8).trans h8))))) (hw := Sg.wy (d := 372) rfl rfl rfl) (h := ?_)
     refine Sg.dv (i := 17) (hi := rfl) (hy := fun _ => (Sg.Xmv (v := .int .i64 ((i : Nat) : Int)))) (hw := Sg.wy (d := 372) rfl rfl rfl) (h := ?_)
     refine Sg.dc (i := 18) (args := #[.slice A8 who.length c8, .int .i64 ((i : Nat) : Int)]) (hi := rfl) (hop := rfl) (hf := Try.func22) (hw := Sg.wy (d := 372) rfl rfl rfl) (hargs := Sg.a2 (Sg.rs rfl rfl) (Sg.rs rfl rfl)) (h := ?_)
     have f69 := Kd.C_below f65 b67
     refine (laws_gHas.calls k A8 c8 who ((i : Nat) : Int) false _ f69 q6 e12).mono ?_
     rintro _ w70 ⟨rfl, d72⟩
     have b71 := d72.below
     refine ⟨_, _, rfl, (Sg.ps rfl), (below_step (below_step b60 b67) b71), ?_⟩
     refine Sg.dv (i := 19) (hi := rfl) (hy := fun _ => (Sg.Xnt (b := false))) (hw := Sg.wy (d := 372) rfl rfl rfl) (h := ?_)
     refine Sg.dv (i := 20) (hi := rfl) (hy := fun _ => (Sg.Xmv (v := .bool true))) (hw := Sg.wy (d := 372) rfl rfl rfl) (h := ?_)
     refine Sg.dv (i := 21) (hi := rfl) (hy := fun _ => (Sg.Xmv (v := .slice A9 then_.length c10) (ho := rfl) (hs := Sg.rs rfl ((s47 35 (by decide)).trans ((congrFun hσ40 35).trans rfl))))) (hw := Sg.wy (d := 377) rfl rfl rfl) (h := ?_)
     refine Sg.dv (i := 22) (hi := rfl) (hy := fun _ => (Sg.Xmv (v := .int .i64 ((i : Nat) : Int)))) (hw := Sg.wy (d := 377) rfl rfl rfl) (h := ?_)
     refine Sg.dv (i := 23) (hi := rfl) (hy := fun _ => (Sg.Xixa (sz := 1) (i := ((i : Nat) : Int)) (hu := Try.underlying29) (hsz := by kernel_rfl) (h0 := h0i) (h1 := h1i) (had := by rw [Nat.mul_one]) (ho := rfl) (hx := Sg.rs rfl (congrArg (fun a_ => Value.slice a_ then_.length c10) hA57)))) (hw := Sg.wy (d := 377) rfl rfl rfl) (h := ?_)
     refine Sg.dt (i := 24) (hi := rfl) (hb := below_step (below_step b60 b67) b71) (hy := fun w_ b_ => (Sg.Xldi (hu := Try.underlying3) (hc := pw_cell_below b_ hc58 ))) (hw := Sg.wy (d := 377) rfl rfl rfl) (h := ?_)
     refine Sg.dv (i := 25) (hi := rfl) (hy := fun _ => (Sg.Xmv (v := .slice A19 ages.length c19) (ho := rfl) (hs := Sg.rs rfl ((s47 19 (by decide)).trans ((congrFun hσ40 19).trans h19))))) (hw := Sg.wy (d := 377) rfl rfl rfl) (h := ?_)
     refine Sg.dv (i := 26) (hi := rfl) (hy := fun _ => (Sg.Xmv (v := .int .i64 ((i : Nat) : Int)))) (hw := Sg.wy (d := 377) rfl rfl rfl) (h := ?_)
     refine Sg.dv (i := 27) (hi := rfl) (hy := fun _ => (Sg.Xixa (sz := 1) (i := ((i : Nat) : Int)) (hu := Try.underlying29) (hsz := by kernel_rfl) (h0 := h0i) (h1 := h2i) (had := by rw [Nat.mul_one]) (ho := rfl) (hx := Sg.rs rfl (congrArg (fun a_ => Value.slice a_ ages.length c19) hA53)))) (hw := Sg.wy (d := 377) rfl rfl rfl) (h := ?_)
     refine Sg.dt (i := 28) (hi := rfl) (hb := below_step (below_step b60 b67) b71) (hy := fun w_ b_ => (Sg.Xldi (hu := Try.underlying3) (hc := pw_cell_below b_ hc54 ))) (hw := Sg.wy (d := 377) rfl rfl rfl) (h := ?_)
     refine Sg.dv (i := 29) (hi := rfl) (hy := fun _ => (Sg.Xbin (v3 := .bool false) (hv := Sg.Ineq (iff_of_false (by simp [h2 rfl]) Bool.false_ne_true)))) (hw := Sg.wy (d := 377) rfl rfl rfl) (h := ?_)
     refine Sg.dv (i := 30) (hi := rfl) (hy := fun _ => (Sg.Xpk (v := .bool false))) (hw := Sg.wy (d := 372) rfl rfl rfl) (h := ?_)
     refine Sg.dv (i := 31) (hi := rfl) (hy := fun _ => (Sg.Xpk (v := .bool false))) (h := ?_)
     first | refine Sg.dend (h := ?_) | refine Sg.dend1 (h := ?_)
     refine Sg.cf rfl rfl ?_
     first | refine Sg.sk ?_ | refine Sg.sk1 ?_
     refine Sg.rg ?_
     refine Sg.iadd (c := ((i + 1 : Nat) : Int)) (hx := Sg.rs rfl t50) (hc := by unfold wrap64; omega) (h := ?_)
     refine Sg.mv (v := .int .i64 ((i + 1 : Nat) : Int)) (h := ?_)
     first | refine Sg.nl ?_ | refine Sg.nl1 ?_
     exact hK1 _ _ _ hlt ⟨fun j hj => (by simp only [Sg.upd]; rw [if_neg (by omega)]; exact s47 j hj), t49, rfl, (below_step (below_step (below_step b48 b60) b67) b71)⟩
    ·skip
     refine Sg.sq ?_
     refine Sg.rg ?_
     refine Sg.mv (v := .int .i64 ((i : Nat) : Int)) (hs := Sg.rs rfl t50) (h := ?_)
     refine Sg.asg (v := .int .i64 ((i : Nat) : Int)) (h := ?_)
     first | refine Sg.nl ?_ | refine Sg.nl1 ?_
     refine Sg.sq ?_
     have f75 := blk_below q7 (below_step (below_step (below_step (below_step (below_step (below_step (below_step b2 b6) b16) b19) q30) b34) b37) b48)
     have f76 := blk_below x27 (below_step (below_step b34 b37) b48)
     have f77 := blk_below f31 (below_step (below_step b34 b37) b48)
     have f78 := blk_below f17 (below_step (below_step (below_step (below_step b19 q30) b34) b37) b48)
     refine Sg.da (k := 32) (h := fun w73 b74 => ?_)
     refine Sg.dv (i := 0) (hi := rfl) (hy := fun _ => (Sg.Xmv (v := .slice A8 who.length c8) (ho := rfl) (hs := Sg.rs rfl ((s47 8 (by decide)).trans ((congrFun hσ40 8).trans h8))))) (h := ?_)
     refine Sg.dv (i := 1) (hi := rfl) (hy := fun _ => (Sg.Xmv (v := .int .i64 ((i : Nat) : Int)))) (h := ?_)
     refine Sg.dc (i := 2) (args := #[.slice A8 who.length c8, .int .i64 ((i : Nat) : Int)]) (hi := rfl) (hop := rfl) (hf := Try.func22) (hargs := Sg.a2 (Sg.rs rfl rfl) (Sg.rs rfl rfl)) (h := ?_)
     have f79 := Kd.C_below f41 (below_step b48 b74)
     refine (laws_gHas.calls k A8 c8 who ((i : Nat) : Int) true _ f79 q6 e12).mono ?_
     rintro _ w80 ⟨rfl, d82⟩
     have b81 := d82.below
     refine ⟨_, _, rfl, (Sg.ps rfl), (below_step b74 b81), ?_⟩
     refine Sg.dv (i := 3) (hi := rfl) (hy := fun _ => (Sg.Xmv (v := .bool true))) (h := ?_)
     refine Sg.dv (i := 4) (hi := rfl) (hy := fun _ => (Sg.Xmv (v := .slice A9 then_.length c10) (ho := rfl) (hs := Sg.rs rfl ((s47 35 (by decide)).trans ((congrFun hσ40 35).trans rfl))))) (hw := Sg.wy (d := 360) rfl rfl rfl) (h := ?_)
     refine Sg.dv (i := 5) (hi := rfl) (hy := fun _ => (Sg.Xmv (v := .int .i64 ((i : Nat) : Int)))) (hw := Sg.wy (d := 360) rfl rfl rfl) (h := ?_)
     refine Sg.dv (i := 6) (hi := rfl) (hy := fun _ => (Sg.Xixa (sz := 1) (i := ((i : Nat) : Int)) (hu := Try.underlying29) (hsz := by kernel_rfl) (h0 := h0i) (h1 := h1i) (had := by rw [Nat.mul_one]) (ho := rfl) (hx := Sg.rs rfl (congrArg (fun a_ => Value.slice a_ then_.length c10) hA57)))) (hw := Sg.wy (d := 360) rfl rfl rfl) (h := ?_)
     refine Sg.dt (i := 7) (hi := rfl) (hb := below_step b74 b81) (hy := fun w_ b_ => (Sg.Xldi (hu := Try.underlying3) (hc := pw_cell_below b_ hc58 ))) (hw := Sg.wy (d := 360) rfl rfl rfl) (h := ?_)
     refine Sg.dv (i := 8) (hi := rfl) (hy := fun _ => (Sg.Xmv (v := .slice A19 ages.length c19) (ho := rfl) (hs := Sg.rs rfl ((s47 19 (by decide)).trans ((congrFun hσ40 19).trans h19))))) (hw := Sg.wy (d := 360) rfl rfl rfl) (h := ?_)
     refine Sg.dv (i := 9) (hi := rfl) (hy := fun _ => (Sg.Xmv (v := .int .i64 ((i : Nat) : Int)))) (hw := Sg.wy (d := 360) rfl rfl rfl) (h := ?_)
     refine Sg.dv (i := 10) (hi := rfl) (hy := fun _ => (Sg.Xixa (sz := 1) (i := ((i : Nat) : Int)) (hu := Try.underlying29) (hsz := by kernel_rfl) (h0 := h0i) (h1 := h2i) (had := by rw [Nat.mul_one]) (ho := rfl) (hx := Sg.rs rfl (congrArg (fun a_ => Value.slice a_ ages.length c19) hA53)))) (hw := Sg.wy (d := 360) rfl rfl rfl) (h := ?_)
     refine Sg.dt (i := 11) (hi := rfl) (hb := below_step b74 b81) (hy := fun w_ b_ => (Sg.Xldi (hu := Try.underlying3) (hc := pw_cell_below b_ hc54 ))) (hw := Sg.wy (d := 360) rfl rfl rfl) (h := ?_)
     refine Sg.dv (i := 12) (hi := rfl) (hy := fun _ => (Sg.Xbin (v3 := .int .i64 (rd then_ ((i : Nat) : Int))) (hv := Sg.Iadd (h1 rfl)))) (hw := Sg.wy (d := 360) rfl rfl rfl) (h := ?_)
     refine Sg.dv (i := 13) (hi := rfl) (hy := fun _ => (Sg.Xbin (v3 := .bool false) (hv := Sg.Ineq (by simp)))) (hw := Sg.wy (d := 360) rfl rfl rfl) (h := ?_)
     refine Sg.dv (i := 14) (hi := rfl) (hy := fun _ => (Sg.Xpk (v := .bool false))) (h := ?_)
     refine Sg.dv (i := 15) (hi := rfl) (hy := fun _ => (Sg.Xmv (v := .bool false))) (h := ?_)
     refine Sg.dv (i := 16) (hi := rfl) (hy := fun _ => (Sg.Xmv (v := .slice A8 who.length c8) (ho := rfl) (hs := Sg.rs rfl ((s47 8 (by decide)).trans ((congrFun hσ40 8).trans h8))))) (hw := Sg.wy (d := 372) rfl rfl rfl) (h := ?_)
     refine Sg.dv (i := 17) (hi := rfl) (hy := fun _ => (Sg.Xmv (v := .int .i64 ((i : Nat) : Int)))) (hw := Sg.wy (d := 372) rfl rfl rfl) (h := ?_)
     refine Sg.dc (i := 18) (args := #[.slice A8 who.length c8, .int .i64 ((i : Nat) : Int)]) (hi := rfl) (hop := rfl) (hf := Try.func22) (hw := Sg.wy (d := 372) rfl rfl rfl) (hargs := Sg.a2 (Sg.rs rfl rfl) (Sg.rs rfl rfl)) (h := ?_)
     have f83 := Kd.C_below f79 b81
     refine (laws_gHas.calls k A8 c8 who ((i : Nat) : Int) true _ f83 q6 e12).mono ?_
     rintro _ w84 ⟨rfl, d86⟩
     have b85 := d86.below
     refine ⟨_, _, rfl, (Sg.ps rfl), (below_step (below_step b74 b81) b85), ?_⟩
     refine Sg.dv (i := 19) (hi := rfl) (hy := fun _ => (Sg.Xnt (b := true))) (hw := Sg.wy (d := 372) rfl rfl rfl) (h := ?_)
     refine Sg.dv (i := 20) (hi := rfl) (hy := fun _ => (Sg.Xmv (v := .bool false))) (hw := Sg.wy (d := 372) rfl rfl rfl) (h := ?_)
     refine Sg.doff (i := 21) (hi := rfl) (hg := rfl) (hw := Sg.yl (d := 377) rfl rfl rfl) (hb := rfl) (h := ?_)
     refine Sg.doff (i := 22) (hi := rfl) (hg := rfl) (hw := Sg.yl (d := 377) rfl rfl rfl) (hb := rfl) (h := ?_)
     refine Sg.doff (i := 23) (hi := rfl) (hg := rfl) (hw := Sg.yl (d := 377) rfl rfl rfl) (hb := rfl) (h := ?_)
     refine Sg.doff (i := 24) (hi := rfl) (hg := rfl) (hw := Sg.yl (d := 377) rfl rfl rfl) (hb := rfl) (h := ?_)
     refine Sg.doff (i := 25) (hi := rfl) (hg := rfl) (hw := Sg.yl (d := 377) rfl rfl rfl) (hb := rfl) (h := ?_)
     refine Sg.doff (i := 26) (hi := rfl) (hg := rfl) (hw := Sg.yl (d := 377) rfl rfl rfl) (hb := rfl) (h := ?_)
     refine Sg.doff (i := 27) (hi := rfl) (hg := rfl) (hw := Sg.yl (d := 377) rfl rfl rfl) (hb := rfl) (h := ?_)
     refine Sg.doff (i := 28) (hi := rfl) (hg := rfl) (hw := Sg.yl (d := 377) rfl rfl rfl) (hb := rfl) (h := ?_)
     refine Sg.doff (i := 29) (hi := rfl) (hg := rfl) (hw := Sg.yl (d := 377) rfl rfl rfl) (hb := rfl) (h := ?_)
     refine Sg.dv (i := 30) (hi := rfl) (hy := fun _ => (Sg.Xpk (v := .bool false))) (hw := Sg.wy (d := 372) rfl rfl rfl) (h := ?_)
     refine Sg.dv (i := 31) (hi := rfl) (hy := fun _ => (Sg.Xpk (v := .bool false))) (h := ?_)
     first | refine Sg.dend (h := ?_) | refine Sg.dend1 (h := ?_)
     refine Sg.cf rfl rfl ?_
     first | refine Sg.sk ?_ | refine Sg.sk1 ?_
     refine Sg.rg ?_
     refine Sg.iadd (c := ((i + 1 : Nat) : Int)) (hx := Sg.rs rfl t50) (hc := by unfold wrap64; omega) (h := ?_)
     refine Sg.mv (v := .int .i64 ((i + 1 : Nat) : Int)) (h := ?_)
     first | refine Sg.nl ?_ | refine Sg.nl1 ?_
     exact hK1 _ _ _ hlt ⟨fun j hj => (by simp only [Sg.upd]; rw [if_neg (by omega)]; exact s47 j hj), t49, rfl, (below_step (below_step (below_step b48 b74) b81) b85)⟩
   ·skip
    refine Sg.sq ?_
    refine Sg.rg ?_
    refine Sg.ilss (c := false) (hx := Sg.rs rfl t50) (hy := Sg.rs rfl t49) (hc := iff_of_false (by omega) Bool.false_ne_true) (h := ?_)
    first | refine Sg.nl ?_ | refine Sg.nl1 ?_
    refine Sg.sq ?_
    refine Sg.cf rfl rfl ?_
    refine Sg.ex0 ?_
    exact hK _ _ _ (fun j hj => (s47 j (by omega)).trans (by rw [hσ40]; simp only [Sg.upd]; rw [if_neg (by omega), if_neg (by omega), if_neg (by omega), if_neg (by omega), if_neg (by omega), if_neg (by omega), if_neg (by omega), if_neg (by omega), if_neg (by omega), if_neg (by omega)])) (below_step (below_step (below_step (below_step (below_step (below_step (below_step b2 b6) b16) b19) q30) b34) b37) b48)
theorem g3p5 (k : Nat) (B : List S26) (o0 o1 n0 n1 : Int) (who : List Int) (ok : Bool) (m0 m1 : Int) (whose : List Int) (one : Bool) (ages : List Int) (three : Bool) (sum : Int) (σ τ : Sg.Fr) (w : World) {rest : Code} {Q : Exit → Act → World → Prop} (hQp : ∀ c (a : Act) d v w, Q (.panic c) (a.put d v) w → Q (.panic c) a w) (hSt : g3St1 B o0 o1 n0 n1 who ok m0 m1 whose one ages three sum σ w) (hB : B.length ≤ 1048576)
    (hone : one = true → ∃ apart : Int, impl_DaysApart.f k o0 o1 m0 m1 = some (apart, true) ∧ apart < 365 ∧ laws_gRises.f k whose = some true ∧ (1 ≤ whose.length ∧ whose.length ≤ 1048576) ∧
      ∀ i : Nat, i < whose.length → 0 ≤ rd whose (i : Int) ∧ rd whose (i : Int) < ((B.length : Nat) : Int) ∧ (rd_T26 B (rd whose (i : Int))).f1 = m1 ∧ (rd_T26 B (rd whose (i : Int))).f0 < m0)
    (hK : ∀ σ' τ' w', (∀ j, j < 44 → σ' j = σ j) → Below w.heap.size w w' → rest.wp Try.prog Q (Sg.fr 674 (Sg.mix 86 σ' τ')) w') :
    (Code.seq (g3S 14) rest).wp Try.prog Q (Sg.fr 674 (Sg.mix 86 σ τ)) w := by
  obtain ⟨A5, c5, g6, g7, A8, c8, g13, A14, c14, A19, c19, ⟨h5, h6, h7, h8, h9, h13, h14, h15, h19, h20, h23⟩, ⟨q1, q2⟩, q3, q4, ⟨q5, q6⟩, q7, ⟨q8, q9⟩, q10, q11⟩ := hSt
  refine Sg.sq ?_
  refine Sg.sq ?_
  refine Sg.rg ?_
  refine Sg.mv (v := .bool one) (hs := Sg.rs rfl h15) (h := ?_)
  first | refine Sg.nl ?_ | refine Sg.nl1 ?_
  cases one
  ·skip
   refine Sg.cf rfl rfl ?_
   first | refine Sg.sk ?_ | refine Sg.sk1 ?_
   exact hK _ _ _ (fun _ _ => rfl) (Below.refl _ _)
  ·skip
   obtain ⟨apart, e1, e2, e3, e4, e5⟩ := hone rfl
   refine Sg.ct rfl rfl ?_
   refine Sg.sq ?_
   refine Sg.rg ?_
   refine Sg.ldr (hu := Try.underlying26) (hd := rfl) (hi := by kernel_rfl) (hg := q3) (hx := Sg.rs rfl h6) (h := ?_)
   refine Sg.ldr (hu := Try.underlying26) (hd := rfl) (hi := by kernel_rfl) (hg := q7) (hx := Sg.rs rfl h13) (h := ?_)
   refine Sg.cl (args := #[.agg #[.int .i64 o0, .int .i64 o1], .agg #[.int .i64 m0, .int .i64 m1]]) (hf := Try.func19) (hargs := Sg.a2 (Sg.rs rfl rfl) (Sg.rs rfl rfl)) (h := ?_)
   refine (impl_DaysApart.calls k o0 o1 m0 m1 apart true _ e1).mono ?_
   rintro _ w1 ⟨rfl, b2⟩
   refine ⟨_, _, rfl, (Sg.ps rfl), ?_⟩
   refine Sg.mv (v := .tuple #[.int .i64 apart, .bool true]) (h := ?_)
   refine Sg.ext (v := .int .i64 apart) (h := ?_)
   refine Sg.ext (v := .bool true) (h := ?_)
   refine Sg.asg (v := .int .i64 apart) (h := ?_)
   refine Sg.asg (v := .bool true) (h := ?_)
   first | refine Sg.nl ?_ | refine Sg.nl1 ?_
   refine Sg.sq ?_
   refine Sg.sq ?_
   refine Sg.rg ?_
   refine Sg.mv (v := .bool true) (h := ?_)
   refine Sg.nt (b := true) (h := ?_)
   refine Sg.mv (v := .bool false) (h := ?_)
   refine Sg.mv (v := .int .i64 apart) (hw := Sg.wy (d := 399) rfl rfl rfl) (h := ?_)
   refine Sg.igeq (c := false) (hw := Sg.wy (d := 399) rfl rfl rfl) (hc := iff_of_false (by omega) Bool.false_ne_true) (h := ?_)
   refine Sg.pk (v := .bool false) (h := ?_)
   refine Sg.mv (v := .bool false) (h := ?_)
   refine Sg.mv (v := .slice A14 whose.length c14) (hw := Sg.wy (d := 403) rfl rfl rfl) (hs := Sg.rs rfl h14) (h := ?_)
   refine Sg.cl (args := #[.slice A14 whose.length c14]) (hf := Try.func21) (hw := Sg.wy (d := 403) rfl rfl rfl) (hargs := Sg.a1 (Sg.rs rfl rfl)) (h := ?_)
   have f3 := Kd.C_below q8 b2
   refine (laws_gRises.calls k A14 c14 whose true _ f3 q9 e3).mono ?_
   rintro _ w4 ⟨rfl, d6⟩
   have b5 := d6.below
   refine ⟨_, _, rfl, (Sg.ps rfl), ?_⟩
   refine Sg.nt (b := true) (hw := Sg.wy (d := 403) rfl rfl rfl) (h := ?_)
   refine Sg.pk (v := .bool false) (h := ?_)
   refine Sg.mv (v := .bool false) (h := ?_)
   refine Sg.mv (v := .slice A14 whose.length c14) (hw := Sg.wy (d := 408) rfl rfl rfl) (hs := Sg.rs rfl h14) (h := ?_)
   refine Sg.len (hu := by first | exact Try.underlying22 | exact Try.underlying24 | exact Try.underlying29) (hw := Sg.wy (d := 408) rfl rfl rfl) (h := ?_)
   refine Sg.ilss (c := false) (hw := Sg.wy (d := 408) rfl rfl rfl) (hc := iff_of_false (by omega) Bool.false_ne_true) (h := ?_)
   refine Sg.pk (v := .bool false) (h := ?_)
   first | refine Sg.nl ?_ | refine Sg.nl1 ?_
   refine Sg.cf rfl rfl ?_
   first | refine Sg.sk ?_ | refine Sg.sk1 ?_
   refine Sg.sq ?_
   refine Sg.rg ?_
   refine Sg.mv (v := .slice A14 whose.length c14) (hs := Sg.rs rfl h14) (h := ?_)
   refine Sg.len (hu := by first | exact Try.underlying22 | exact Try.underlying24 | exact Try.underlying29) (h := ?_)
   refine Sg.mv (v := .int .i64 0) (h := ?_)
   first | refine Sg.nl ?_ | refine Sg.nl1 ?_
   refine Sg.gs fun σ7 hσ8 => ?_
   have f9 := Kd.C_below q1 (below_step b2 b5)
   have f10 := Kd.C_below f3 b5
   have f11 := blk_below q7 (below_step b2 b5)
   refine Sg.bl ?_
   refine Sg.lp (whose.length) (fun i σ' τ' w' => (∀ j, j < 47 → σ' j = σ7 j) ∧ τ' 413 = .slice A14 whose.length c14 ∧ τ' 414 = .int .i64 ((whose.length : Nat) : Int) ∧ τ' 415 = .int .i64 ((i : Nat) : Int) ∧ Below w4.heap.size w4 w') 0 (Nat.zero_le _) ⟨fun _ _ => rfl, rfl, rfl, rfl, Below.refl _ _⟩ ?_
   rintro i σ12 τ13 w14 hi ⟨s15, t17, t18, t19, b16⟩ K1 hK1
   by_cases hlt : i < whose.length
   ·skip
    refine Sg.sq ?_
    refine Sg.rg ?_
    refine Sg.ilss (c := true) (hx := Sg.rs rfl t19) (hy := Sg.rs rfl t18) (hc := iff_of_true (by omega) rfl) (h := ?_)
    first | refine Sg.nl ?_ | refine Sg.nl1 ?_
    refine Sg.sq ?_
    refine Sg.ct rfl rfl ?_
    first | refine Sg.sk ?_ | refine Sg.sk1 ?_
    refine Sg.sq ?_
    refine Sg.bl ?_
    obtain ⟨e6, e7, e8, e9⟩ := e5 i hlt
    have h0i : (0 : Int) ≤ ((i : Nat) : Int) := Int.natCast_nonneg i
    have h1i : ((i : Nat) : Int) < ((whose.length : Nat) : Int) := by omega
    have hbn : i < 1048576 := by omega
    have f20 := Kd.C_below f10 b16
    obtain ⟨ad21, hA22, hc23⟩ := Kd.at_int f20 ((i : Nat) : Int) h0i h1i
    have f24 := Kd.C_below f9 b16
    obtain ⟨ad25, hA26, hc27, hc28⟩ := at_T26 f24 (rd whose ((i : Nat) : Int)) e6 e7
    have f29 := blk_below f11 b16
    have cg0 : w14.cell? ⟨g13, 0, none⟩ = some (.int .i64 m0) := (blk_cell f29 0).trans rfl
    have cg1 : w14.cell? ⟨g13, 1, none⟩ = some (.int .i64 m1) := (blk_cell f29 1).trans rfl
    refine Sg.sq ?_
    refine Sg.rg ?_
    refine Sg.yy (hy := Sg.Xixa (sz := 1) (i := ((i : Nat) : Int)) (hu := Try.underlying29) (hsz := by kernel_rfl) (h0 := h0i) (h1 := h1i) (had := by rw [Nat.mul_one]) (ho := rfl) (hx := Sg.rs rfl (t17.trans (congrArg (fun a_ => Value.slice a_ whose.length c14) hA22))) (hy := Sg.rs rfl t19)) (h := ?_)
    refine Sg.yy (hy := Sg.Xldi (hu := Try.underlying3) (hc := hc23)) (h := ?_)
    refine Sg.asg (v := .int .i64 (rd whose ((i : Nat) : Int))) (h := ?_)
    first | refine Sg.nl ?_ | refine Sg.nl1 ?_
    refine Sg.sq ?_
    have f32 := blk_below q3 (below_step (below_step b2 b5) b16)
    have f33 := blk_below q4 (below_step (below_step b2 b5) b16)
    refine Sg.da (k := 28) (h := fun w30 b31 => ?_)
    refine Sg.dv (i := 0) (hi := rfl) (hy := fun _ => (Sg.Xmv (v := .int .i64 (rd whose ((i : Nat) : Int))))) (h := ?_)
    refine Sg.dv (i := 1) (hi := rfl) (hy := fun _ => (Sg.Xbin (v3 := .bool false) (hv := Sg.Ilss (iff_of_false (by omega) Bool.false_ne_true)))) (h := ?_)
    refine Sg.dv (i := 2) (hi := rfl) (hy := fun _ => (Sg.Xmv (v := .bool false))) (h := ?_)
    refine Sg.dv (i := 3) (hi := rfl) (hy := fun _ => (Sg.Xmv (v := .int .i64 (rd whose ((i : Nat) : Int))))) (hw := Sg.wy (d := 421) rfl rfl rfl) (h := ?_)
    refine Sg.dv (i := 4) (hi := rfl) (hy := fun _ => (Sg.Xmv (v := .slice A5 B.length c5) (ho := rfl) (hs := Sg.rs rfl ((s15 5 (by decide)).trans ((congrFun hσ8 5).trans h5))))) (hw := Sg.wy (d := 421) rfl rfl rfl) (h := ?_)
    refine Sg.dv (i := 5) (hi := rfl) (hy := fun _ => (Sg.Xlen (hu := by first | exact Try.underlying22 | exact Try.underlying24 | exact Try.underlying29) (ho := rfl))) (hw := Sg.wy (d := 421) rfl rfl rfl) (h := ?_)
    refine Sg.dv (i := 6) (hi := rfl) (hy := fun _ => (Sg.Xbin (v3 := .bool false) (hv := Sg.Igeq (iff_of_false (by omega) Bool.false_ne_true)))) (hw := Sg.wy (d := 421) rfl rfl rfl) (h := ?_)
    refine Sg.dv (i := 7) (hi := rfl) (hy := fun _ => (Sg.Xpk (v := .bool false))) (h := ?_)
    refine Sg.dv (i := 8) (hi := rfl) (hy := fun _ => (Sg.Xmv (v := .bool false))) (h := ?_)
    refine Sg.dv (i := 9) (hi := rfl) (hy := fun _ => (Sg.Xmv (v := .slice A5 B.length c5) (ho := rfl) (hs := Sg.rs rfl ((s15 5 (by decide)).trans ((congrFun hσ8 5).trans h5))))) (hw := Sg.wy (d := 427) rfl rfl rfl) (h := ?_)
    refine Sg.dv (i := 10) (hi := rfl) (hy := fun _ => (Sg.Xmv (v := .int .i64 (rd whose ((i : Nat) : Int))))) (hw := Sg.wy (d := 427) rfl rfl rfl) (h := ?_)
    refine Sg.dv (i := 11) (hi := rfl) (hy := fun _ => (Sg.Xixa (sz := 2) (i := rd whose ((i : Nat) : Int)) (hu := Try.underlying24) (hsz := by kernel_rfl) (h0 := e6) (h1 := e7) (had := rfl) (ho := rfl) (hx := Sg.rs rfl (congrArg (fun a_ => Value.slice a_ B.length c5) hA26)))) (hw := Sg.wy (d := 427) rfl rfl rfl) (h := ?_)
    refine Sg.dv (i := 12) (hi := rfl) (hy := fun _ => (Sg.Xfld (sz := 1) (ad' := ((ad25.add ((rd whose ((i : Nat) : Int)).toNat * 2))).add 1) (k := 1) (hu := Try.underlying26) (hf := rfl) (hsz := by kernel_rfl) (h0 := rfl) (had := rfl))) (hw := Sg.wy (d := 427) rfl rfl rfl) (h := ?_)
    refine Sg.dt (i := 13) (hi := rfl) (hb := b31) (hy := fun w_ b_ => (Sg.Xldi (hu := Try.underlying3) (hc := pw_cell_below b_ hc28 ))) (hw := Sg.wy (d := 427) rfl rfl rfl) (h := ?_)
    refine Sg.dv (i := 14) (hi := rfl) (hy := fun _ => (Sg.Xfld (sz := 1) (ad' := ⟨g13, 1, none⟩) (k := 1) (hu := Try.underlying26) (hf := rfl) (hsz := by kernel_rfl) (h0 := rfl) (had := rfl) (ho := rfl) (hx := Sg.rs rfl ((s15 13 (by decide)).trans ((congrFun hσ8 13).trans h13))))) (hw := Sg.wy (d := 427) rfl rfl rfl) (h := ?_)
    refine Sg.dt (i := 15) (hi := rfl) (hb := b31) (hy := fun w_ b_ => (Sg.Xldi (hu := Try.underlying3) (hc := pw_cell_below b_ cg1 ))) (hw := Sg.wy (d := 427) rfl rfl rfl) (h := ?_)
    refine Sg.dv (i := 16) (hi := rfl) (hy := fun _ => (Sg.Xbin (v3 := .bool false) (hv := Sg.Ineq (iff_of_false (by simp [e8]) Bool.false_ne_true)))) (hw := Sg.wy (d := 427) rfl rfl rfl) (h := ?_)
    refine Sg.dv (i := 17) (hi := rfl) (hy := fun _ => (Sg.Xpk (v := .bool false))) (h := ?_)
    refine Sg.dv (i := 18) (hi := rfl) (hy := fun _ => (Sg.Xmv (v := .bool false))) (h := ?_)
    refine Sg.dv (i := 19) (hi := rfl) (hy := fun _ => (Sg.Xmv (v := .slice A5 B.length c5) (ho := rfl) (hs := Sg.rs rfl ((s15 5 (by decide)).trans ((congrFun hσ8 5).trans h5))))) (hw := Sg.wy (d := 437) rfl rfl rfl) (h := ?_)
    refine Sg.dv (i := 20) (hi := rfl) (hy := fun _ => (Sg.Xmv (v := .int .i64 (rd whose ((i : Nat) : Int))))) (hw := Sg.wy (d := 437) rfl rfl rfl) (h := ?_)
    refine Sg.dv (i := 21) (hi := rfl) (hy := fun _ => (Sg.Xixa (sz := 2) (i := rd whose ((i : Nat) : Int)) (hu := Try.underlying24) (hsz := by kernel_rfl) (h0 := e6) (h1 := e7) (had := rfl) (ho := rfl) (hx := Sg.rs rfl (congrArg (fun a_ => Value.slice a_ B.length c5) hA26)))) (hw := Sg.wy (d := 437) rfl rfl rfl) (h := ?_)
    refine Sg.dv (i := 22) (hi := rfl) (hy := fun _ => (Sg.Xfld (sz := 1) (ad' := (ad25.add ((rd whose ((i : Nat) : Int)).toNat * 2))) (k := 0) (hu := Try.underlying26) (hf := rfl) (hsz := by kernel_rfl) (h0 := rfl) (had := rfl))) (hw := Sg.wy (d := 437) rfl rfl rfl) (h := ?_)
    refine Sg.dt (i := 23) (hi := rfl) (hb := b31) (hy := fun w_ b_ => (Sg.Xldi (hu := Try.underlying3) (hc := pw_cell_below b_ hc27 ))) (hw := Sg.wy (d := 437) rfl rfl rfl) (h := ?_)
    refine Sg.dv (i := 24) (hi := rfl) (hy := fun _ => (Sg.Xfld (sz := 1) (ad' := ⟨g13, 0, none⟩) (k := 0) (hu := Try.underlying26) (hf := rfl) (hsz := by kernel_rfl) (h0 := rfl) (had := rfl) (ho := rfl) (hx := Sg.rs rfl ((s15 13 (by decide)).trans ((congrFun hσ8 13).trans h13))))) (hw := Sg.wy (d := 437) rfl rfl rfl) (h := ?_)
    refine Sg.dt (i := 25) (hi := rfl) (hb := b31) (hy := fun w_ b_ => (Sg.Xldi (hu := Try.underlying3) (hc := pw_cell_below b_ cg0 ))) (hw := Sg.wy (d := 437) rfl rfl rfl) (h := ?_)
    refine Sg.dv (i := 26) (hi := rfl) (hy := fun _ => (Sg.Xbin (v3 := .bool false) (hv := Sg.Igeq (iff_of_false (by omega) Bool.false_ne_true)))) (hw := Sg.wy (d := 437) rfl rfl rfl) (h := ?_)
    refine Sg.dv (i := 27) (hi := rfl) (hy := fun _ => (Sg.Xpk (v := .bool false))) (h := ?_)
    first | refine Sg.dend (h := ?_) | refine Sg.dend1 (h := ?_)
    refine Sg.cf rfl rfl ?_
    first | refine Sg.sk ?_ | refine Sg.sk1 ?_
    refine Sg.rg ?_
    refine Sg.iadd (c := ((i + 1 : Nat) : Int)) (hx := Sg.rs rfl t19) (hc := by unfold wrap64; omega) (h := ?_)
    refine Sg.mv (v := .int .i64 ((i + 1 : Nat) : Int)) (h := ?_)
    first | refine Sg.nl ?_ | refine Sg.nl1 ?_
    exact hK1 _ _ _ hlt ⟨fun j hj => (by simp only [Sg.upd]; rw [if_neg (by omega)]; exact s15 j hj), t17, t18, rfl, (below_step b16 b31)⟩
   ·skip
    refine Sg.sq ?_
    refine Sg.rg ?_
    refine Sg.ilss (c := false) (hx := Sg.rs rfl t19) (hy := Sg.rs rfl t18) (hc := iff_of_false (by omega) Bool.false_ne_true) (h := ?_)
    first | refine Sg.nl ?_ | refine Sg.nl1 ?_
    refine Sg.sq ?_
    refine Sg.cf rfl rfl ?_
    refine Sg.ex0 ?_
    exact hK _ _ _ (fun j hj => (s15 j (by omega)).trans (by rw [hσ8]; simp only [Sg.upd]; rw [if_neg (by omega), if_neg (by omega)])) (below_step (below_step b2 b5) b16)
/-- The slots and the memory behind the calls of the second half. -/
def g3St2 (L : List S26) (f0 f1 t0 t1 n : Int) (seven : Bool) (d0 d1 days la0 la1 : Int) (nine : Bool) (a0 a1 b0 b1 apart : Int) (eleven : Bool) (x0 x1 y0 y1 age : Int) (thirteen : Bool) (σ : Sg.Fr) (w : World) : Prop := ∃ (A48 : Option Addr) (c48 : Nat) (g49 g50 g55 g57 g61 g62 g67 g68 : Nat),
  (σ 48 = .slice A48 L.length c48 ∧ σ 49 = .pointer (some ⟨g49, 0, none⟩) ∧ σ 50 = .pointer (some ⟨g50, 0, none⟩) ∧ σ 55 = .pointer (some ⟨g55, 0, none⟩) ∧ σ 57 = .pointer (some ⟨g57, 0, none⟩) ∧ σ 61 = .pointer (some ⟨g61, 0, none⟩) ∧ σ 62 = .pointer (some ⟨g62, 0, none⟩) ∧ σ 67 = .pointer (some ⟨g67, 0, none⟩) ∧ σ 68 = .pointer (some ⟨g68, 0, none⟩) ∧ σ 51 = .int .i64 n ∧ σ 52 = .bool seven ∧ σ 56 = .int .i64 days ∧ σ 58 = .bool nine ∧ σ 63 = .int .i64 apart ∧ σ 64 = .bool eleven ∧ σ 69 = .int .i64 age ∧ σ 70 = .bool thirteen) ∧ (Kd.C k26 w A48 L.length L ∧ L.length ≤ c48) ∧ w.heap[g49]? = some (.cells #[.int .i64 f0, .int .i64 f1] 26 (0, 0)) ∧ w.heap[g50]? = some (.cells #[.int .i64 t0, .int .i64 t1] 26 (0, 0)) ∧ w.heap[g55]? = some (.cells #[.int .i64 d0, .int .i64 d1] 26 (0, 0)) ∧ w.heap[g57]? = some (.cells #[.int .i64 la0, .int .i64 la1] 26 (0, 0)) ∧ w.heap[g61]? = some (.cells #[.int .i64 a0, .int .i64 a1] 26 (0, 0)) ∧ w.heap[g62]? = some (.cells #[.int .i64 b0, .int .i64 b1] 26 (0, 0)) ∧ w.heap[g67]? = some (.cells #[.int .i64 x0, .int .i64 x1] 26 (0, 0)) ∧ w.heap[g68]? = some (.cells #[.int .i64 y0, .int .i64 y1] 26 (0, 0))
theorem g3St2.keep {L : List S26} {f0 f1 t0 t1 n : Int} {seven : Bool} {d0 d1 days la0 la1 : Int} {nine : Bool} {a0 a1 b0 b1 apart : Int} {eleven : Bool} {x0 x1 y0 y1 age : Int} {thirteen : Bool} {σ σ' : Sg.Fr} {w w' : World} (h : g3St2 L f0 f1 t0 t1 n seven d0 d1 days la0 la1 nine a0 a1 b0 b1 apart eleven x0 x1 y0 y1 age thirteen σ w) (hs : ∀ i, 47 < i → i < 71 → σ' i = σ i) (hb : Below w.heap.size w w') : g3St2 L f0 f1 t0 t1 n seven d0 d1 days la0 la1 nine a0 a1 b0 b1 apart eleven x0 x1 y0 y1 age thirteen σ' w' := by
  obtain ⟨A48, c48, g49, g50, g55, g57, g61, g62, g67, g68, ⟨h48, h49, h50, h55, h57, h61, h62, h67, h68, h51, h52, h56, h58, h63, h64, h69, h70⟩, ⟨q1, q2⟩, p49, p50, p55, p57, p61, p62, p67, p68⟩ := h
  exact ⟨A48, c48, g49, g50, g55, g57, g61, g62, g67, g68, ⟨(hs 48 (by decide) (by decide)).trans h48, (hs 49 (by decide) (by decide)).trans h49, (hs 50 (by decide) (by decide)).trans h50, (hs 55 (by decide) (by decide)).trans h55, (hs 57 (by decide) (by decide)).trans h57, (hs 61 (by decide) (by decide)).trans h61, (hs 62 (by decide) (by decide)).trans h62, (hs 67 (by decide) (by decide)).trans h67, (hs 68 (by decide) (by decide)).trans h68, (hs 51 (by decide) (by decide)).trans h51, (hs 52 (by decide) (by decide)).trans h52, (hs 56 (by decide) (by decide)).trans h56, (hs 58 (by decide) (by decide)).trans h58, (hs 63 (by decide) (by decide)).trans h63, (hs 64 (by decide) (by decide)).trans h64, (hs 69 (by decide) (by decide)).trans h69, (hs 70 (by decide) (by decide)).trans h70⟩, ⟨Kd.C_below q1 hb, q2⟩, blk_below p49 hb, blk_below p50 hb, blk_below p55 hb, blk_below p57 hb, blk_below p61 hb, blk_below p62 hb, blk_below p67 hb, blk_below p68 hb⟩
theorem g3p6 (k : Nat) (A1 : Option Addr) (c1 : Nat) (l1 : List Int) (L : List S26) (f0 f1 t0 t1 n : Int) (seven : Bool) (d0 d1 days la0 la1 : Int) (nine : Bool) (a0 a1 b0 b1 apart : Int) (eleven : Bool) (x0 x1 y0 y1 age : Int) (thirteen : Bool) (z0 z1 : Int) (isd : Bool) (σ τ : Sg.Fr) (w : World) {rest : Code} {Q : Exit → Act → World → Prop} (hQp : ∀ c (a : Act) d v w, Q (.panic c) (a.put d v) w → Q (.panic c) a w) (h1 : σ 1 = .slice A1 l1.length c1) (hC1 : Kd.C (Kd.int .u8) w A1 l1.length l1) (hc1 : l1.length ≤ c1)
    (hD2 : spec_DrawBirthdaysBetween.f k l1 = some (L, f0, f1, t0, t1)) (hBI : impl_BirthdaysBetween.f k L f0 f1 t0 t1 = some (n, seven)) (hBS : spec_BirthdaysBetween.f k L f0 f1 t0 t1 = some (n, seven)) (hD3 : spec_DrawAddDays.f l1 = some (d0, d1, days)) (hDI : impl_AddDays.f k d0 d1 days = some (la0, la1, nine)) (hDS : spec_AddDays.f k d0 d1 days = some (la0, la1, nine)) (hD4 : spec_DrawDaysApart.f l1 = some (a0, a1, b0, b1)) (hPI : impl_DaysApart.f k a0 a1 b0 b1 = some (apart, eleven)) (hPS : spec_DaysApart.f k a0 a1 b0 b1 = some (apart, eleven)) (hD5 : spec_DrawAgeOn.f l1 = some (x0, x1, y0, y1)) (hGI : impl_AgeOn.f k x0 x1 y0 y1 = some (age, thirteen)) (hGS : spec_AgeOn.f x0 x1 y0 y1 = some (age, thirteen)) (hD6 : spec_DrawIsDate.f l1 = some (z0, z1)) (hZI : impl_IsDate.f z0 z1 = some isd) (hZS : spec_IsDate.f z0 z1 = some isd)
    (hK : ∀ σ' τ' w', g3St2 L f0 f1 t0 t1 n seven d0 d1 days la0 la1 nine a0 a1 b0 b1 apart eleven x0 x1 y0 y1 age thirteen σ' w' → Below w.heap.size w w' → rest.wp Try.prog Q (Sg.fr 674 (Sg.mix 86 σ' τ')) w') :
    (Code.seq (g3S 15) (Code.seq (g3S 16) (Code.seq (g3S 17) (Code.seq (g3S 18) (Code.seq (g3S 19) (Code.seq (g3S 20) (Code.seq (g3S 21) (Code.seq (g3S 22) (Code.seq (g3S 23) (Code.seq (g3S 24) (Code.seq (g3S 25) (Code.seq (g3S 26) (Code.seq (g3S 27) (Code.seq (g3S 28) rest)))))))))))))).wp Try.prog Q (Sg.fr 674 (Sg.mix 86 σ τ)) w := by
  refine Sg.sq ?_
  refine Sg.rg ?_
  refine Sg.mv (v := .slice A1 l1.length c1) (hs := Sg.rs rfl h1) (h := ?_)
  refine Sg.cl (args := #[.slice A1 l1.length c1]) (hf := Try.func23) (hargs := Sg.a1 (Sg.rs rfl rfl)) (h := ?_)
  refine (spec_DrawBirthdaysBetween.calls k A1 c1 l1 L f0 f1 t0 t1 _ hC1 hc1 hD2).mono ?_
  rintro _ w1 ⟨v3, rfl, r4, b2⟩
  obtain ⟨A5, c6, rfl⟩ := Kd.R_slice r4
  have f7 := (Kd.R_reads' r4).2.2
  have f8 := (Kd.R_reads' r4).2.1
  refine ⟨_, _, rfl, (Sg.ps rfl), ?_⟩
  refine Sg.mv (v := .tuple #[.slice A5 L.length c6, .agg #[.int .i64 f0, .int .i64 f1], .agg #[.int .i64 t0, .int .i64 t1]]) (h := ?_)
  refine Sg.ext (v := .slice A5 L.length c6) (h := ?_)
  refine Sg.ext (v := .agg #[.int .i64 f0, .int .i64 f1]) (h := ?_)
  refine Sg.ext (v := .agg #[.int .i64 t0, .int .i64 t1]) (h := ?_)
  refine Sg.alo (cs := #[.int .i64 0, .int .i64 0]) (t0 := 26) (hx := by first | (go_simp; done) | (go_simp; rfl)) (h := fun g9 w10 e11 x12 b13 => ⟨_, (Sg.pn rfl), ?_⟩)
  have l14 : w1.heap.size ≤ g9 := Nat.le_of_eq e11.symm
  refine Sg.alo (cs := #[.int .i64 0, .int .i64 0]) (t0 := 26) (hx := by first | (go_simp; done) | (go_simp; rfl)) (h := fun g15 w16 e17 x18 b19 => ⟨_, (Sg.pn rfl), ?_⟩)
  have l20 : w1.heap.size ≤ g15 := by rw [e17]; exact b13.size
  have n22 : g9 ≠ g15 := by rw [e17]; exact Nat.ne_of_lt (blk_lt x12)
  have x21 := blk_below x12 b19
  have q23 := below_step b13 b19
  refine Sg.asg (v := .slice A5 L.length c6) (h := ?_)
  refine Sg.sto (cs := #[.int .i64 f0, .int .i64 f1]) x21 (by kernel_rfl) rfl (by kernel_rfl) Sg.w0 (Sg.rs rfl rfl) (Sg.rs rfl rfl) (fun w24 x25 o26 k27 => ?_)
  have q28 := k27 _ _ l14 q23
  have x29 := (o26 g15 n22.symm).trans x18
  refine Sg.sto (cs := #[.int .i64 t0, .int .i64 t1]) x29 (by kernel_rfl) rfl (by kernel_rfl) Sg.w0 (Sg.rs rfl rfl) (Sg.rs rfl rfl) (fun w30 x31 o32 k33 => ?_)
  have q34 := k33 _ _ l20 q28
  have x35 := (o32 g9 n22).trans x25
  first | refine Sg.nl ?_ | refine Sg.nl1 ?_
  refine Sg.gn fun τ1 => ?_
  refine Sg.sq ?_
  refine Sg.rg ?_
  refine Sg.mv (v := .slice A5 L.length c6) (h := ?_)
  refine Sg.ldr (hu := Try.underlying26) (hd := rfl) (hi := by kernel_rfl) (hg := x35) (h := ?_)
  refine Sg.ldr (hu := Try.underlying26) (hd := rfl) (hi := by kernel_rfl) (hg := x31) (h := ?_)
  refine Sg.cl (args := #[.slice A5 L.length c6, .agg #[.int .i64 f0, .int .i64 f1], .agg #[.int .i64 t0, .int .i64 t1]]) (hf := Try.func18) (hargs := Sg.a3 (Sg.rs rfl rfl) (Sg.rs rfl rfl) (Sg.rs rfl rfl)) (h := ?_)
  have f36 := Kd.C_below f7 q34
  refine (impl_BirthdaysBetween.calls k A5 c6 L f0 f1 t0 t1 n seven _ f36 f8 hBI).mono ?_
  rintro _ w37 ⟨rfl, b38⟩
  refine ⟨_, _, rfl, (Sg.ps rfl), ?_⟩
  refine Sg.mv (v := .tuple #[.int .i64 n, .bool seven]) (h := ?_)
  refine Sg.ext (v := .int .i64 n) (h := ?_)
  refine Sg.ext (v := .bool seven) (h := ?_)
  refine Sg.asg (v := .int .i64 n) (h := ?_)
  refine Sg.asg (v := .bool seven) (h := ?_)
  first | refine Sg.nl ?_ | refine Sg.nl1 ?_
  refine Sg.gn fun τ2 => ?_
  refine Sg.sq ?_
  refine Sg.rg ?_
  refine Sg.mv (v := .slice A5 L.length c6) (h := ?_)
  have f39 := blk_below x35 b38
  refine Sg.ldr (hu := Try.underlying26) (hd := rfl) (hi := by kernel_rfl) (hg := f39) (h := ?_)
  have f40 := blk_below x31 b38
  refine Sg.ldr (hu := Try.underlying26) (hd := rfl) (hi := by kernel_rfl) (hg := f40) (h := ?_)
  refine Sg.cl (args := #[.slice A5 L.length c6, .agg #[.int .i64 f0, .int .i64 f1], .agg #[.int .i64 t0, .int .i64 t1]]) (hf := Try.func24) (hargs := Sg.a3 (Sg.rs rfl rfl) (Sg.rs rfl rfl) (Sg.rs rfl rfl)) (h := ?_)
  have f41 := Kd.C_below f36 b38
  refine (spec_BirthdaysBetween.calls k A5 c6 L f0 f1 t0 t1 n seven _ f41 f8 hBS).mono ?_
  rintro _ w42 ⟨rfl, b43⟩
  refine ⟨_, _, rfl, (Sg.ps rfl), ?_⟩
  refine Sg.mv (v := .tuple #[.int .i64 n, .bool seven]) (h := ?_)
  refine Sg.ext (v := .int .i64 n) (h := ?_)
  refine Sg.ext (v := .bool seven) (h := ?_)
  refine Sg.asg (v := .int .i64 n) (h := ?_)
  refine Sg.asg (v := .bool seven) (h := ?_)
  first | refine Sg.nl ?_ | refine Sg.nl1 ?_
  refine Sg.gn fun τ3 => ?_
  refine Sg.sq ?_
  refine Sg.rg ?_
  refine Sg.mv (v := .slice A1 l1.length c1) (hs := Sg.rs rfl h1) (h := ?_)
  refine Sg.cl (args := #[.slice A1 l1.length c1]) (hf := Try.func25) (hargs := Sg.a1 (Sg.rs rfl rfl)) (h := ?_)
  have f44 := Kd.C_below hC1 (below_step (below_step (below_step b2 q34) b38) b43)
  refine (spec_DrawAddDays.calls A1 c1 l1 d0 d1 days _ f44 hc1 hD3).mono ?_
  rintro _ w45 ⟨rfl, b46⟩
  refine ⟨_, _, rfl, (Sg.ps rfl), ?_⟩
  refine Sg.mv (v := .tuple #[.agg #[.int .i64 d0, .int .i64 d1], .int .i64 days]) (h := ?_)
  refine Sg.ext (v := .agg #[.int .i64 d0, .int .i64 d1]) (h := ?_)
  refine Sg.ext (v := .int .i64 days) (h := ?_)
  refine Sg.alo (cs := #[.int .i64 0, .int .i64 0]) (t0 := 26) (hx := by first | (go_simp; done) | (go_simp; rfl)) (h := fun g47 w48 e49 x50 b51 => ⟨_, (Sg.pn rfl), ?_⟩)
  have l52 : w45.heap.size ≤ g47 := Nat.le_of_eq e49.symm
  refine Sg.sto (cs := #[.int .i64 d0, .int .i64 d1]) x50 (by kernel_rfl) rfl (by kernel_rfl) Sg.w0 (Sg.rs rfl rfl) (Sg.rs rfl rfl) (fun w53 x54 o55 k56 => ?_)
  have q57 := k56 _ _ l52 b51
  refine Sg.asg (v := .int .i64 days) (h := ?_)
  first | refine Sg.nl ?_ | refine Sg.nl1 ?_
  refine Sg.gn fun τ4 => ?_
  refine Sg.sq ?_
  refine Sg.rg ?_
  refine Sg.ldr (hu := Try.underlying26) (hd := rfl) (hi := by kernel_rfl) (hg := x54) (h := ?_)
  refine Sg.mv (v := .int .i64 days) (h := ?_)
  refine Sg.cl (args := #[.agg #[.int .i64 d0, .int .i64 d1], .int .i64 days]) (hf := Try.func20) (hargs := Sg.a2 (Sg.rs rfl rfl) (Sg.rs rfl rfl)) (h := ?_)
  refine (impl_AddDays.calls k d0 d1 days la0 la1 nine _ hDI).mono ?_
  rintro _ w58 ⟨rfl, b59⟩
  refine ⟨_, _, rfl, (Sg.ps rfl), ?_⟩
  refine Sg.mv (v := .tuple #[.agg #[.int .i64 la0, .int .i64 la1], .bool nine]) (h := ?_)
  refine Sg.ext (v := .agg #[.int .i64 la0, .int .i64 la1]) (h := ?_)
  refine Sg.ext (v := .bool nine) (h := ?_)
  refine Sg.alo (cs := #[.int .i64 0, .int .i64 0]) (t0 := 26) (hx := by first | (go_simp; done) | (go_simp; rfl)) (h := fun g60 w61 e62 x63 b64 => ⟨_, (Sg.pn rfl), ?_⟩)
  have l65 : w58.heap.size ≤ g60 := Nat.le_of_eq e62.symm
  refine Sg.sto (cs := #[.int .i64 la0, .int .i64 la1]) x63 (by kernel_rfl) rfl (by kernel_rfl) Sg.w0 (Sg.rs rfl rfl) (Sg.rs rfl rfl) (fun w66 x67 o68 k69 => ?_)
  have q70 := k69 _ _ l65 b64
  refine Sg.asg (v := .bool nine) (h := ?_)
  first | refine Sg.nl ?_ | refine Sg.nl1 ?_
  refine Sg.gn fun τ5 => ?_
  refine Sg.sq ?_
  refine Sg.rg ?_
  have f71 := blk_below x54 (below_step b59 q70)
  refine Sg.ldr (hu := Try.underlying26) (hd := rfl) (hi := by kernel_rfl) (hg := f71) (h := ?_)
  refine Sg.mv (v := .int .i64 days) (h := ?_)
  refine Sg.cl (args := #[.agg #[.int .i64 d0, .int .i64 d1], .int .i64 days]) (hf := Try.func26) (hargs := Sg.a2 (Sg.rs rfl rfl) (Sg.rs rfl rfl)) (h := ?_)
  refine (spec_AddDays.calls k d0 d1 days la0 la1 nine _ hDS).mono ?_
  rintro _ w72 ⟨rfl, b73⟩
  refine ⟨_, _, rfl, (Sg.ps rfl), ?_⟩
  refine Sg.mv (v := .tuple #[.agg #[.int .i64 la0, .int .i64 la1], .bool nine]) (h := ?_)
  refine Sg.ext (v := .agg #[.int .i64 la0, .int .i64 la1]) (h := ?_)
  refine Sg.ext (v := .bool nine) (h := ?_)
  refine Sg.alo (cs := #[.int .i64 0, .int .i64 0]) (t0 := 26) (hx := by first | (go_simp; done) | (go_simp; rfl)) (h := fun g74 w75 e76 x77 b78 => ⟨_, (Sg.pn rfl), ?_⟩)
  have l79 : w72.heap.size ≤ g74 := Nat.le_of_eq e76.symm
  refine Sg.sto (cs := #[.int .i64 la0, .int .i64 la1]) x77 (by kernel_rfl) rfl (by kernel_rfl) Sg.w0 (Sg.rs rfl rfl) (Sg.rs rfl rfl) (fun w80 x81 o82 k83 => ?_)
  have q84 := k83 _ _ l79 b78
  refine Sg.asg (v := .bool nine) (h := ?_)
  first | refine Sg.nl ?_ | refine Sg.nl1 ?_
  refine Sg.gn fun τ6 => ?_
  refine Sg.sq ?_
  refine Sg.rg ?_
  refine Sg.mv (v := .slice A1 l1.length c1) (hs := Sg.rs rfl h1) (h := ?_)
  refine Sg.cl (args := #[.slice A1 l1.length c1]) (hf := Try.func27) (hargs := Sg.a1 (Sg.rs rfl rfl)) (h := ?_)
  have f85 := Kd.C_below f44 (below_step (below_step (below_step (below_step (below_step b46 q57) b59) q70) b73) q84)
  refine (spec_DrawDaysApart.calls A1 c1 l1 a0 a1 b0 b1 _ f85 hc1 hD4).mono ?_
  rintro _ w86 ⟨rfl, b87⟩
  refine ⟨_, _, rfl, (Sg.ps rfl), ?_⟩
  refine Sg.mv (v := .tuple #[.agg #[.int .i64 a0, .int .i64 a1], .agg #[.int .i64 b0, .int .i64 b1]]) (h := ?_)
  refine Sg.ext (v := .agg #[.int .i64 a0, .int .i64 a1]) (h := ?_)
  refine Sg.ext (v := .agg #[.int .i64 b0, .int .i64 b1]) (h := ?_)
  refine Sg.alo (cs := #[.int .i64 0, .int .i64 0]) (t0 := 26) (hx := by first | (go_simp; done) | (go_simp; rfl)) (h := fun g88 w89 e90 x91 b92 => ⟨_, (Sg.pn rfl), ?_⟩)
  have l93 : w86.heap.size ≤ g88 := Nat.le_of_eq e90.symm
  refine Sg.alo (cs := #[.int .i64 0, .int .i64 0]) (t0 := 26) (hx := by first | (go_simp; done) | (go_simp; rfl)) (h := fun g94 w95 e96 x97 b98 => ⟨_, (Sg.pn rfl), ?_⟩)
  have l99 : w86.heap.size ≤ g94 := by rw [e96]; exact b92.size
  have n101 : g88 ≠ g94 := by rw [e96]; exact Nat.ne_of_lt (blk_lt x91)
  have x100 := blk_below x91 b98
  have q102 := below_step b92 b98
  refine Sg.sto (cs := #[.int .i64 a0, .int .i64 a1]) x100 (by kernel_rfl) rfl (by kernel_rfl) Sg.w0 (Sg.rs rfl rfl) (Sg.rs rfl rfl) (fun w103 x104 o105 k106 => ?_)
  have q107 := k106 _ _ l93 q102
  have x108 := (o105 g94 n101.symm).trans x97
  refine Sg.sto (cs := #[.int .i64 b0, .int .i64 b1]) x108 (by kernel_rfl) rfl (by kernel_rfl) Sg.w0 (Sg.rs rfl rfl) (Sg.rs rfl rfl) (fun w109 x110 o111 k112 => ?_)
  have q113 := k112 _ _ l99 q107
  have x114 := (o111 g88 n101).trans x104
  first | refine Sg.nl ?_ | refine Sg.nl1 ?_
  refine Sg.gn fun τ7 => ?_
  refine Sg.sq ?_
  refine Sg.rg ?_
  refine Sg.ldr (hu := Try.underlying26) (hd := rfl) (hi := by kernel_rfl) (hg := x114) (h := ?_)
  refine Sg.ldr (hu := Try.underlying26) (hd := rfl) (hi := by kernel_rfl) (hg := x110) (h := ?_)
  refine Sg.cl (args := #[.agg #[.int .i64 a0, .int .i64 a1], .agg #[.int .i64 b0, .int .i64 b1]]) (hf := Try.func19) (hargs := Sg.a2 (Sg.rs rfl rfl) (Sg.rs rfl rfl)) (h := ?_)
  refine (impl_DaysApart.calls k a0 a1 b0 b1 apart eleven _ hPI).mono ?_
  rintro _ w115 ⟨rfl, b116⟩
  refine ⟨_, _, rfl, (Sg.ps rfl), ?_⟩
  refine Sg.mv (v := .tuple #[.int .i64 apart, .bool eleven]) (h := ?_)
  refine Sg.ext (v := .int .i64 apart) (h := ?_)
  refine Sg.ext (v := .bool eleven) (h := ?_)
  refine Sg.asg (v := .int .i64 apart) (h := ?_)
  refine Sg.asg (v := .bool eleven) (h := ?_)
  first | refine Sg.nl ?_ | refine Sg.nl1 ?_
  refine Sg.gn fun τ8 => ?_
  refine Sg.sq ?_
  refine Sg.rg ?_
  have f117 := blk_below x114 b116
  refine Sg.ldr (hu := Try.underlying26) (hd := rfl) (hi := by kernel_rfl) (hg := f117) (h := ?_)
  have f118 := blk_below x110 b116
  refine Sg.ldr (hu := Try.underlying26) (hd := rfl) (hi := by kernel_rfl) (hg := f118) (h := ?_)
  refine Sg.cl (args := #[.agg #[.int .i64 a0, .int .i64 a1], .agg #[.int .i64 b0, .int .i64 b1]]) (hf := Try.func28) (hargs := Sg.a2 (Sg.rs rfl rfl) (Sg.rs rfl rfl)) (h := ?_)
  refine (spec_DaysApart.calls k a0 a1 b0 b1 apart eleven _ hPS).mono ?_
  rintro _ w119 ⟨rfl, b120⟩
  refine ⟨_, _, rfl, (Sg.ps rfl), ?_⟩
  refine Sg.mv (v := .tuple #[.int .i64 apart, .bool eleven]) (h := ?_)
  refine Sg.ext (v := .int .i64 apart) (h := ?_)
  refine Sg.ext (v := .bool eleven) (h := ?_)
  refine Sg.asg (v := .int .i64 apart) (h := ?_)
  refine Sg.asg (v := .bool eleven) (h := ?_)
  first | refine Sg.nl ?_ | refine Sg.nl1 ?_
  refine Sg.gn fun τ9 => ?_
  refine Sg.sq ?_
  refine Sg.rg ?_
  refine Sg.mv (v := .slice A1 l1.length c1) (hs := Sg.rs rfl h1) (h := ?_)
  refine Sg.cl (args := #[.slice A1 l1.length c1]) (hf := Try.func29) (hargs := Sg.a1 (Sg.rs rfl rfl)) (h := ?_)
  have f121 := Kd.C_below f85 (below_step (below_step (below_step b87 q113) b116) b120)
  refine (spec_DrawAgeOn.calls A1 c1 l1 x0 x1 y0 y1 _ f121 hc1 hD5).mono ?_
  rintro _ w122 ⟨rfl, b123⟩
  refine ⟨_, _, rfl, (Sg.ps rfl), ?_⟩
  refine Sg.mv (v := .tuple #[.agg #[.int .i64 x0, .int .i64 x1], .agg #[.int .i64 y0, .int .i64 y1]]) (h := ?_)
  refine Sg.ext (v := .agg #[.int .i64 x0, .int .i64 x1]) (h := ?_)
  refine Sg.ext (v := .agg #[.int .i64 y0, .int .i64 y1]) (h := ?_)
  refine Sg.alo (cs := #[.int .i64 0, .int .i64 0]) (t0 := 26) (hx := by first | (go_simp; done) | (go_simp; rfl)) (h := fun g124 w125 e126 x127 b128 => ⟨_, (Sg.pn rfl), ?_⟩)
  have l129 : w122.heap.size ≤ g124 := Nat.le_of_eq e126.symm
  refine Sg.alo (cs := #[.int .i64 0, .int .i64 0]) (t0 := 26) (hx := by first | (go_simp; done) | (go_simp; rfl)) (h := fun g130 w131 e132 x133 b134 => ⟨_, (Sg.pn rfl), ?_⟩)
  have l135 : w122.heap.size ≤ g130 := by rw [e132]; exact b128.size
  have n137 : g124 ≠ g130 := by rw [e132]; exact Nat.ne_of_lt (blk_lt x127)
  have x136 := blk_below x127 b134
  have q138 := below_step b128 b134
  refine Sg.sto (cs := #[.int .i64 x0, .int .i64 x1]) x136 (by kernel_rfl) rfl (by kernel_rfl) Sg.w0 (Sg.rs rfl rfl) (Sg.rs rfl rfl) (fun w139 x140 o141 k142 => ?_)
  have q143 := k142 _ _ l129 q138
  have x144 := (o141 g130 n137.symm).trans x133
  refine Sg.sto (cs := #[.int .i64 y0, .int .i64 y1]) x144 (by kernel_rfl) rfl (by kernel_rfl) Sg.w0 (Sg.rs rfl rfl) (Sg.rs rfl rfl) (fun w145 x146 o147 k148 => ?_)
  have q149 := k148 _ _ l135 q143
  have x150 := (o147 g124 n137).trans x140
  first | refine Sg.nl ?_ | refine Sg.nl1 ?_
  refine Sg.gn fun τ10 => ?_
  refine Sg.sq ?_
  refine Sg.rg ?_
  refine Sg.ldr (hu := Try.underlying26) (hd := rfl) (hi := by kernel_rfl) (hg := x150) (h := ?_)
  refine Sg.ldr (hu := Try.underlying26) (hd := rfl) (hi := by kernel_rfl) (hg := x146) (h := ?_)
  refine Sg.cl (args := #[.agg #[.int .i64 x0, .int .i64 x1], .agg #[.int .i64 y0, .int .i64 y1]]) (hf := Try.func16) (hargs := Sg.a2 (Sg.rs rfl rfl) (Sg.rs rfl rfl)) (h := ?_)
  refine (impl_AgeOn.calls k x0 x1 y0 y1 age thirteen _ hGI).mono ?_
  rintro _ w151 ⟨rfl, b152⟩
  refine ⟨_, _, rfl, (Sg.ps rfl), ?_⟩
  refine Sg.mv (v := .tuple #[.int .i64 age, .bool thirteen]) (h := ?_)
  refine Sg.ext (v := .int .i64 age) (h := ?_)
  refine Sg.ext (v := .bool thirteen) (h := ?_)
  refine Sg.asg (v := .int .i64 age) (h := ?_)
  refine Sg.asg (v := .bool thirteen) (h := ?_)
  first | refine Sg.nl ?_ | refine Sg.nl1 ?_
  refine Sg.gn fun τ11 => ?_
  refine Sg.sq ?_
  refine Sg.rg ?_
  have f153 := blk_below x150 b152
  refine Sg.ldr (hu := Try.underlying26) (hd := rfl) (hi := by kernel_rfl) (hg := f153) (h := ?_)
  have f154 := blk_below x146 b152
  refine Sg.ldr (hu := Try.underlying26) (hd := rfl) (hi := by kernel_rfl) (hg := f154) (h := ?_)
  refine Sg.cl (args := #[.agg #[.int .i64 x0, .int .i64 x1], .agg #[.int .i64 y0, .int .i64 y1]]) (hf := Try.func30) (hargs := Sg.a2 (Sg.rs rfl rfl) (Sg.rs rfl rfl)) (h := ?_)
  refine (spec_AgeOn.calls x0 x1 y0 y1 age thirteen _ hGS).mono ?_
  rintro _ w155 ⟨rfl, b156⟩
  refine ⟨_, _, rfl, (Sg.ps rfl), ?_⟩
  refine Sg.mv (v := .tuple #[.int .i64 age, .bool thirteen]) (h := ?_)
  refine Sg.ext (v := .int .i64 age) (h := ?_)
  refine Sg.ext (v := .bool thirteen) (h := ?_)
  refine Sg.asg (v := .int .i64 age) (h := ?_)
  refine Sg.asg (v := .bool thirteen) (h := ?_)
  first | refine Sg.nl ?_ | refine Sg.nl1 ?_
  refine Sg.gn fun τ12 => ?_
  refine Sg.sq ?_
  refine Sg.rg ?_
  refine Sg.mv (v := .slice A1 l1.length c1) (hs := Sg.rs rfl h1) (h := ?_)
  refine Sg.cl (args := #[.slice A1 l1.length c1]) (hf := Try.func31) (hargs := Sg.a1 (Sg.rs rfl rfl)) (h := ?_)
  have f157 := Kd.C_below f121 (below_step (below_step (below_step b123 q149) b152) b156)
  refine (spec_DrawIsDate.calls A1 c1 l1 z0 z1 _ f157 hc1 hD6).mono ?_
  rintro _ w158 ⟨rfl, b159⟩
  refine ⟨_, _, rfl, (Sg.ps rfl), ?_⟩
  refine Sg.alo (cs := #[.int .i64 0, .int .i64 0]) (t0 := 26) (hx := by first | (go_simp; done) | (go_simp; rfl)) (h := fun g160 w161 e162 x163 b164 => ⟨_, (Sg.pn rfl), ?_⟩)
  have l165 : w158.heap.size ≤ g160 := Nat.le_of_eq e162.symm
  refine Sg.sto (cs := #[.int .i64 z0, .int .i64 z1]) x163 (by kernel_rfl) rfl (by kernel_rfl) Sg.w0 (Sg.rs rfl rfl) (Sg.rs rfl rfl) (fun w166 x167 o168 k169 => ?_)
  have q170 := k169 _ _ l165 b164
  first | refine Sg.nl ?_ | refine Sg.nl1 ?_
  refine Sg.gn fun τ13 => ?_
  refine Sg.sq ?_
  refine Sg.sq ?_
  have f173 := blk_below f153 (below_step (below_step b156 b159) q170)
  have f174 := blk_below f154 (below_step (below_step b156 b159) q170)
  have f175 := blk_below f40 (below_step (below_step (below_step (below_step (below_step (below_step (below_step (below_step (below_step (below_step (below_step (below_step (below_step (below_step (below_step (below_step b43 b46) q57) b59) q70) b73) q84) b87) q113) b116) b120) b123) q149) b152) b156) b159) q170)
  have f176 := blk_below f71 (below_step (below_step (below_step (below_step (below_step (below_step (below_step (below_step (below_step (below_step (below_step b73 q84) b87) q113) b116) b120) b123) q149) b152) b156) b159) q170)
  have f177 := blk_below x67 (below_step (below_step (below_step (below_step (below_step (below_step (below_step (below_step (below_step (below_step (below_step b73 q84) b87) q113) b116) b120) b123) q149) b152) b156) b159) q170)
  have f178 := blk_below x81 (below_step (below_step (below_step (below_step (below_step (below_step (below_step (below_step (below_step b87 q113) b116) b120) b123) q149) b152) b156) b159) q170)
  have f179 := blk_below f117 (below_step (below_step (below_step (below_step (below_step (below_step b120 b123) q149) b152) b156) b159) q170)
  have f180 := blk_below f39 (below_step (below_step (below_step (below_step (below_step (below_step (below_step (below_step (below_step (below_step (below_step (below_step (below_step (below_step (below_step (below_step b43 b46) q57) b59) q70) b73) q84) b87) q113) b116) b120) b123) q149) b152) b156) b159) q170)
  have f181 := blk_below f118 (below_step (below_step (below_step (below_step (below_step (below_step b120 b123) q149) b152) b156) b159) q170)
  refine Sg.da (k := 45) (h := fun w171 b172 => ?_)
  refine Sg.dv (i := 0) (hi := rfl) (hy := fun _ => (Sg.Xmv (v := .bool seven))) (h := ?_)
  refine Sg.dv (i := 1) (hi := rfl) (hy := fun _ => (Sg.Xmv (v := .bool seven))) (h := ?_)
  refine Sg.dv (i := 2) (hi := rfl) (hy := fun _ => (Sg.Xbin (v3 := .bool false) (hv := Sg.Bneq Try.underlying4 (by first | rfl | simp)))) (h := ?_)
  refine Sg.dv (i := 3) (hi := rfl) (hy := fun _ => (Sg.Xmv (v := .bool false))) (h := ?_)
  refine Sg.dv (i := 4) (hi := rfl) (hy := fun _ => (Sg.Xmv (v := .int .i64 n))) (hw := Sg.wy (d := 524) rfl rfl rfl) (h := ?_)
  refine Sg.dv (i := 5) (hi := rfl) (hy := fun _ => (Sg.Xmv (v := .int .i64 n))) (hw := Sg.wy (d := 524) rfl rfl rfl) (h := ?_)
  refine Sg.dv (i := 6) (hi := rfl) (hy := fun _ => (Sg.Xbin (v3 := .bool false) (hv := Sg.Ineq (by simp)))) (hw := Sg.wy (d := 524) rfl rfl rfl) (h := ?_)
  refine Sg.dv (i := 7) (hi := rfl) (hy := fun _ => (Sg.Xpk (v := .bool false))) (h := ?_)
  refine Sg.dv (i := 8) (hi := rfl) (hy := fun _ => (Sg.Xmv (v := .bool false))) (h := ?_)
  refine Sg.dv (i := 9) (hi := rfl) (hy := fun _ => (Sg.Xmv (v := .bool nine))) (hw := Sg.wy (d := 529) rfl rfl rfl) (h := ?_)
  refine Sg.dv (i := 10) (hi := rfl) (hy := fun _ => (Sg.Xmv (v := .bool nine))) (hw := Sg.wy (d := 529) rfl rfl rfl) (h := ?_)
  refine Sg.dv (i := 11) (hi := rfl) (hy := fun _ => (Sg.Xbin (v3 := .bool false) (hv := Sg.Bneq Try.underlying4 (by first | rfl | simp)))) (hw := Sg.wy (d := 529) rfl rfl rfl) (h := ?_)
  refine Sg.dv (i := 12) (hi := rfl) (hy := fun _ => (Sg.Xpk (v := .bool false))) (h := ?_)
  refine Sg.dv (i := 13) (hi := rfl) (hy := fun _ => (Sg.Xmv (v := .bool false))) (h := ?_)
  refine Sg.dt (i := 14) (hi := rfl) (hb := b172) (hy := fun w_ b_ => (Sg.Xldr (hu := Try.underlying26) (hd := rfl) (hi := by kernel_rfl) (hg := blk_below f177 b_ ))) (hw := Sg.wy (d := 534) rfl rfl rfl) (h := ?_)
  refine Sg.dt (i := 15) (hi := rfl) (hb := b172) (hy := fun w_ b_ => (Sg.Xldr (hu := Try.underlying26) (hd := rfl) (hi := by kernel_rfl) (hg := blk_below f178 b_ ))) (hw := Sg.wy (d := 534) rfl rfl rfl) (h := ?_)
  refine Sg.dv (i := 16) (hi := rfl) (hy := fun _ => (Sg.Xbin (v3 := .bool false) (hv := fun w_ x_ y_ => (g3neqD _ _ _ _ w_ x_ y_).trans (by simp)))) (hw := Sg.wy (d := 534) rfl rfl rfl) (h := ?_)
  refine Sg.dv (i := 17) (hi := rfl) (hy := fun _ => (Sg.Xpk (v := .bool false))) (h := ?_)
  refine Sg.dv (i := 18) (hi := rfl) (hy := fun _ => (Sg.Xmv (v := .bool false))) (h := ?_)
  refine Sg.dv (i := 19) (hi := rfl) (hy := fun _ => (Sg.Xmv (v := .bool eleven))) (hw := Sg.wy (d := 539) rfl rfl rfl) (h := ?_)
  refine Sg.dv (i := 20) (hi := rfl) (hy := fun _ => (Sg.Xmv (v := .bool eleven))) (hw := Sg.wy (d := 539) rfl rfl rfl) (h := ?_)
  refine Sg.dv (i := 21) (hi := rfl) (hy := fun _ => (Sg.Xbin (v3 := .bool false) (hv := Sg.Bneq Try.underlying4 (by first | rfl | simp)))) (hw := Sg.wy (d := 539) rfl rfl rfl) (h := ?_)
  refine Sg.dv (i := 22) (hi := rfl) (hy := fun _ => (Sg.Xpk (v := .bool false))) (h := ?_)
  refine Sg.dv (i := 23) (hi := rfl) (hy := fun _ => (Sg.Xmv (v := .bool false))) (h := ?_)
  refine Sg.dv (i := 24) (hi := rfl) (hy := fun _ => (Sg.Xmv (v := .int .i64 apart))) (hw := Sg.wy (d := 544) rfl rfl rfl) (h := ?_)
  refine Sg.dv (i := 25) (hi := rfl) (hy := fun _ => (Sg.Xmv (v := .int .i64 apart))) (hw := Sg.wy (d := 544) rfl rfl rfl) (h := ?_)
  refine Sg.dv (i := 26) (hi := rfl) (hy := fun _ => (Sg.Xbin (v3 := .bool false) (hv := Sg.Ineq (by simp)))) (hw := Sg.wy (d := 544) rfl rfl rfl) (h := ?_)
  refine Sg.dv (i := 27) (hi := rfl) (hy := fun _ => (Sg.Xpk (v := .bool false))) (h := ?_)
  refine Sg.dv (i := 28) (hi := rfl) (hy := fun _ => (Sg.Xmv (v := .bool false))) (h := ?_)
  refine Sg.dv (i := 29) (hi := rfl) (hy := fun _ => (Sg.Xmv (v := .bool thirteen))) (hw := Sg.wy (d := 549) rfl rfl rfl) (h := ?_)
  refine Sg.dv (i := 30) (hi := rfl) (hy := fun _ => (Sg.Xmv (v := .bool thirteen))) (hw := Sg.wy (d := 549) rfl rfl rfl) (h := ?_)
  refine Sg.dv (i := 31) (hi := rfl) (hy := fun _ => (Sg.Xbin (v3 := .bool false) (hv := Sg.Bneq Try.underlying4 (by first | rfl | simp)))) (hw := Sg.wy (d := 549) rfl rfl rfl) (h := ?_)
  refine Sg.dv (i := 32) (hi := rfl) (hy := fun _ => (Sg.Xpk (v := .bool false))) (h := ?_)
  refine Sg.dv (i := 33) (hi := rfl) (hy := fun _ => (Sg.Xmv (v := .bool false))) (h := ?_)
  refine Sg.dv (i := 34) (hi := rfl) (hy := fun _ => (Sg.Xmv (v := .int .i64 age))) (hw := Sg.wy (d := 554) rfl rfl rfl) (h := ?_)
  refine Sg.dv (i := 35) (hi := rfl) (hy := fun _ => (Sg.Xmv (v := .int .i64 age))) (hw := Sg.wy (d := 554) rfl rfl rfl) (h := ?_)
  refine Sg.dv (i := 36) (hi := rfl) (hy := fun _ => (Sg.Xbin (v3 := .bool false) (hv := Sg.Ineq (by simp)))) (hw := Sg.wy (d := 554) rfl rfl rfl) (h := ?_)
  refine Sg.dv (i := 37) (hi := rfl) (hy := fun _ => (Sg.Xpk (v := .bool false))) (h := ?_)
  refine Sg.dv (i := 38) (hi := rfl) (hy := fun _ => (Sg.Xmv (v := .bool false))) (h := ?_)
  refine Sg.dt (i := 39) (hi := rfl) (hb := b172) (hy := fun w_ b_ => (Sg.Xldr (hu := Try.underlying26) (hd := rfl) (hi := by kernel_rfl) (hg := blk_below x167 b_ ))) (hw := Sg.wy (d := 559) rfl rfl rfl) (h := ?_)
  refine Sg.dt (i := 41) (hi := rfl) (hb := b172) (hy := fun w_ b_ => (Sg.Xldr (hu := Try.underlying26) (hd := rfl) (hi := by kernel_rfl) (hg := blk_below x167 b_ ))) (hw := Sg.wy (d := 559) rfl rfl rfl) (h := ?_)
  refine Sg.dc (i := 40) (args := #[.agg #[.int .i64 z0, .int .i64 z1]]) (hi := rfl) (hop := rfl) (hf := Try.func32) (hw := Sg.wy (d := 559) rfl rfl rfl) (hargs := Sg.a1 (Sg.rs rfl rfl)) (h := ?_)
  refine (impl_IsDate.calls z0 z1 isd _ hZI).mono ?_
  rintro _ w182 ⟨rfl, b183⟩
  refine ⟨_, _, rfl, (Sg.ps rfl), (below_step b172 b183), ?_⟩
  refine Sg.dc (i := 42) (args := #[.agg #[.int .i64 z0, .int .i64 z1]]) (hi := rfl) (hop := rfl) (hf := Try.func33) (hw := Sg.wy (d := 559) rfl rfl rfl) (hargs := Sg.a1 (Sg.rs rfl rfl)) (h := ?_)
  refine (spec_IsDate.calls z0 z1 isd _ hZS).mono ?_
  rintro _ w184 ⟨rfl, b185⟩
  refine ⟨_, _, rfl, (Sg.ps rfl), (below_step (below_step b172 b183) b185), ?_⟩
  refine Sg.dv (i := 43) (hi := rfl) (hy := fun _ => (Sg.Xbin (v3 := .bool false) (hv := Sg.Bneq Try.underlying4 (by first | rfl | simp)))) (hw := Sg.wy (d := 559) rfl rfl rfl) (h := ?_)
  refine Sg.dv (i := 44) (hi := rfl) (hy := fun _ => (Sg.Xpk (v := .bool false))) (h := ?_)
  first | refine Sg.dend (h := ?_) | refine Sg.dend1 (h := ?_)
  refine Sg.cf rfl rfl ?_
  first | refine Sg.sk ?_ | refine Sg.sk1 ?_
  refine Sg.gn fun τ14 => ?_
  have f186 := Kd.C_below f41 (below_step (below_step (below_step (below_step (below_step (below_step (below_step (below_step (below_step (below_step (below_step (below_step (below_step (below_step (below_step (below_step (below_step (below_step (below_step b43 b46) q57) b59) q70) b73) q84) b87) q113) b116) b120) b123) q149) b152) b156) b159) q170) b172) b183) b185)
  have f187 := blk_below f180 (below_step (below_step b172 b183) b185)
  have f188 := blk_below f175 (below_step (below_step b172 b183) b185)
  have f189 := blk_below f176 (below_step (below_step b172 b183) b185)
  have f190 := blk_below f177 (below_step (below_step b172 b183) b185)
  have f191 := blk_below f179 (below_step (below_step b172 b183) b185)
  have f192 := blk_below f181 (below_step (below_step b172 b183) b185)
  have f193 := blk_below f173 (below_step (below_step b172 b183) b185)
  have f194 := blk_below f174 (below_step (below_step b172 b183) b185)
  exact hK _ _ _ ⟨A5, c6, g9, g15, g47, g60, g88, g94, g124, g130, ⟨rfl, rfl, rfl, rfl, rfl, rfl, rfl, rfl, rfl, rfl, rfl, rfl, rfl, rfl, rfl, rfl, rfl⟩, ⟨f186, f8⟩, f187, f188, f189, f190, f191, f192, f193, f194⟩ (below_step (below_step (below_step (below_step (below_step (below_step (below_step (below_step (below_step (below_step (below_step (below_step (below_step (below_step (below_step (below_step (below_step (below_step (below_step (below_step (below_step (below_step b2 q34) b38) b43) b46) q57) b59) q70) b73) q84) b87) q113) b116) b120) b123) q149) b152) b156) b159) q170) b172) b183) b185)
theorem g3p8 (k : Nat) (L : List S26) (f0 f1 t0 t1 n : Int) (seven : Bool) (d0 d1 days la0 la1 : Int) (nine : Bool) (a0 a1 b0 b1 apart : Int) (eleven : Bool) (x0 x1 y0 y1 age : Int) (thirteen : Bool) (σ τ : Sg.Fr) (w : World) {rest : Code} {Q : Exit → Act → World → Prop} (hSt : g3St2 L f0 f1 t0 t1 n seven d0 d1 days la0 la1 nine a0 a1 b0 b1 apart eleven x0 x1 y0 y1 age thirteen σ w)
    (h7 : seven = true → ∃ p q : Int, impl_SumOfAgesOn.f k L f0 f1 = some (p, true) ∧ impl_SumOfAgesOn.f k L t0 t1 = some (q, true) ∧ wrap64 (q - p) = n)
    (hK : ∀ σ' τ' w', (∀ j, j < 74 → σ' j = σ j) → Below w.heap.size w w' → rest.wp Try.prog Q (Sg.fr 674 (Sg.mix 86 σ' τ')) w') :
    (Code.seq (g3S 29) rest).wp Try.prog Q (Sg.fr 674 (Sg.mix 86 σ τ)) w := by
  obtain ⟨A48, c48, g49, g50, g55, g57, g61, g62, g67, g68, ⟨h48, h49, h50, h55, h57, h61, h62, h67, h68, h51, h52, h56, h58, h63, h64, h69, h70⟩, ⟨q1, q2⟩, p49, p50, p55, p57, p61, p62, p67, p68⟩ := hSt
  refine Sg.sq ?_
  refine Sg.sq ?_
  refine Sg.rg ?_
  refine Sg.mv (v := .bool seven) (hs := Sg.rs rfl h52) (h := ?_)
  first | refine Sg.nl ?_ | refine Sg.nl1 ?_
  cases seven
  ·skip
   refine Sg.cf rfl rfl ?_
   first | refine Sg.sk ?_ | refine Sg.sk1 ?_
   exact hK _ _ _ (fun _ _ => rfl) (Below.refl _ _)
  ·skip
   obtain ⟨p, q, e1, e2, e3⟩ := h7 rfl
   refine Sg.ct rfl rfl ?_
   refine Sg.sq ?_
   refine Sg.rg ?_
   refine Sg.mv (v := .slice A48 L.length c48) (hs := Sg.rs rfl h48) (h := ?_)
   refine Sg.ldr (hu := Try.underlying26) (hd := rfl) (hi := by kernel_rfl) (hg := p49) (hx := Sg.rs rfl h49) (h := ?_)
   refine Sg.cl (args := #[.slice A48 L.length c48, .agg #[.int .i64 f0, .int .i64 f1]]) (hf := Try.func12) (hargs := Sg.a2 (Sg.rs rfl rfl) (Sg.rs rfl rfl)) (h := ?_)
   refine (impl_SumOfAgesOn.calls k A48 c48 L f0 f1 p true _ q1 q2 e1).mono ?_
   rintro _ w1 ⟨rfl, b2⟩
   refine ⟨_, _, rfl, (Sg.ps rfl), ?_⟩
   refine Sg.mv (v := .tuple #[.int .i64 p, .bool true]) (h := ?_)
   refine Sg.ext (v := .int .i64 p) (h := ?_)
   refine Sg.ext (v := .bool true) (h := ?_)
   refine Sg.asg (v := .int .i64 p) (h := ?_)
   refine Sg.asg (v := .bool true) (h := ?_)
   first | refine Sg.nl ?_ | refine Sg.nl1 ?_
   refine Sg.sq ?_
   refine Sg.rg ?_
   refine Sg.mv (v := .slice A48 L.length c48) (hs := Sg.rs rfl h48) (h := ?_)
   have f3 := blk_below p50 b2
   refine Sg.ldr (hu := Try.underlying26) (hd := rfl) (hi := by kernel_rfl) (hg := f3) (hx := Sg.rs rfl h50) (h := ?_)
   refine Sg.cl (args := #[.slice A48 L.length c48, .agg #[.int .i64 t0, .int .i64 t1]]) (hf := Try.func12) (hargs := Sg.a2 (Sg.rs rfl rfl) (Sg.rs rfl rfl)) (h := ?_)
   have f4 := Kd.C_below q1 b2
   refine (impl_SumOfAgesOn.calls k A48 c48 L t0 t1 q true _ f4 q2 e2).mono ?_
   rintro _ w5 ⟨rfl, b6⟩
   refine ⟨_, _, rfl, (Sg.ps rfl), ?_⟩
   refine Sg.mv (v := .tuple #[.int .i64 q, .bool true]) (h := ?_)
   refine Sg.ext (v := .int .i64 q) (h := ?_)
   refine Sg.ext (v := .bool true) (h := ?_)
   refine Sg.asg (v := .int .i64 q) (h := ?_)
   refine Sg.asg (v := .bool true) (h := ?_)
   first | refine Sg.nl ?_ | refine Sg.nl1 ?_
   refine Sg.sq ?_
   refine Sg.rg ?_
   refine Sg.mv (v := .bool true) (h := ?_)
   refine Sg.nt (b := true) (h := ?_)
   refine Sg.mv (v := .bool false) (h := ?_)
   refine Sg.mv (v := .bool true) (hw := Sg.wy (d := 581) rfl rfl rfl) (h := ?_)
   refine Sg.nt (b := true) (hw := Sg.wy (d := 581) rfl rfl rfl) (h := ?_)
   refine Sg.pk (v := .bool false) (h := ?_)
   refine Sg.mv (v := .bool false) (h := ?_)
   refine Sg.mv (v := .int .i64 q) (hw := Sg.wy (d := 585) rfl rfl rfl) (h := ?_)
   refine Sg.mv (v := .int .i64 p) (hw := Sg.wy (d := 585) rfl rfl rfl) (h := ?_)
   refine Sg.isub (c := n) (hw := Sg.wy (d := 585) rfl rfl rfl) (hc := e3) (h := ?_)
   refine Sg.mv (v := .int .i64 n) (hw := Sg.wy (d := 585) rfl rfl rfl) (hs := Sg.rs rfl h51) (h := ?_)
   refine Sg.ineq (c := false) (hw := Sg.wy (d := 585) rfl rfl rfl) (h := ?_)
   refine Sg.pk (v := .bool false) (h := ?_)
   first | refine Sg.nl ?_ | refine Sg.nl1 ?_
   refine Sg.cf rfl rfl ?_
   first | refine Sg.sk ?_ | refine Sg.sk1 ?_
   exact hK _ _ _ (fun j hj => (by simp only [Sg.upd]; rw [if_neg (by omega), if_neg (by omega), if_neg (by omega), if_neg (by omega)])) (below_step b2 b6)
theorem g3p9 (k : Nat) (L : List S26) (f0 f1 t0 t1 n : Int) (seven : Bool) (d0 d1 days la0 la1 : Int) (nine : Bool) (a0 a1 b0 b1 apart : Int) (eleven : Bool) (x0 x1 y0 y1 age : Int) (thirteen : Bool) (σ τ : Sg.Fr) (w : World) {rest : Code} {Q : Exit → Act → World → Prop} (hSt : g3St2 L f0 f1 t0 t1 n seven d0 d1 days la0 la1 nine a0 a1 b0 b1 apart eleven x0 x1 y0 y1 age thirteen σ w)
    (h9 : nine = true → ∃ btw : Int, impl_AddDays.f k la0 la1 (wrap64 (-days)) = some (d0, d1, true) ∧ impl_DaysApart.f k d0 d1 la0 la1 = some (btw, true) ∧ (btw = days ∨ btw = wrap64 (-days)))
    (hK : ∀ σ' τ' w', (∀ j, j < 74 → σ' j = σ j) → Below w.heap.size w w' → rest.wp Try.prog Q (Sg.fr 674 (Sg.mix 86 σ' τ')) w') :
    (Code.seq (g3S 30) rest).wp Try.prog Q (Sg.fr 674 (Sg.mix 86 σ τ)) w := by
  obtain ⟨A48, c48, g49, g50, g55, g57, g61, g62, g67, g68, ⟨h48, h49, h50, h55, h57, h61, h62, h67, h68, h51, h52, h56, h58, h63, h64, h69, h70⟩, ⟨q1, q2⟩, p49, p50, p55, p57, p61, p62, p67, p68⟩ := hSt
  refine Sg.sq ?_
  refine Sg.sq ?_
  refine Sg.rg ?_
  refine Sg.mv (v := .bool nine) (hs := Sg.rs rfl h58) (h := ?_)
  first | refine Sg.nl ?_ | refine Sg.nl1 ?_
  cases nine
  ·skip
   refine Sg.cf rfl rfl ?_
   first | refine Sg.sk ?_ | refine Sg.sk1 ?_
   exact hK _ _ _ (fun _ _ => rfl) (Below.refl _ _)
  ·skip
   obtain ⟨btw, e1, e2, e3⟩ := h9 rfl
   refine Sg.ct rfl rfl ?_
   refine Sg.sq ?_
   refine Sg.rg ?_
   refine Sg.ldr (hu := Try.underlying26) (hd := rfl) (hi := by kernel_rfl) (hg := p57) (hx := Sg.rs rfl h57) (h := ?_)
   refine Sg.mv (v := .int .i64 days) (hs := Sg.rs rfl h56) (h := ?_)
   refine Sg.neg (c := wrap64 (-days)) (hc := rfl) (h := ?_)
   refine Sg.cl (args := #[.agg #[.int .i64 la0, .int .i64 la1], .int .i64 (wrap64 (-days))]) (hf := Try.func20) (hargs := Sg.a2 (Sg.rs rfl rfl) (Sg.rs rfl rfl)) (h := ?_)
   refine (impl_AddDays.calls k la0 la1 (wrap64 (-days)) d0 d1 true _ e1).mono ?_
   rintro _ w1 ⟨rfl, b2⟩
   refine ⟨_, _, rfl, (Sg.ps rfl), ?_⟩
   refine Sg.mv (v := .tuple #[.agg #[.int .i64 d0, .int .i64 d1], .bool true]) (h := ?_)
   refine Sg.ext (v := .agg #[.int .i64 d0, .int .i64 d1]) (h := ?_)
   refine Sg.ext (v := .bool true) (h := ?_)
   refine Sg.alo (cs := #[.int .i64 0, .int .i64 0]) (t0 := 26) (hx := by first | (go_simp; done) | (go_simp; rfl)) (h := fun g3 w4 e5 x6 b7 => ⟨_, (Sg.pn rfl), ?_⟩)
   have l8 : w1.heap.size ≤ g3 := Nat.le_of_eq e5.symm
   refine Sg.sto (cs := #[.int .i64 d0, .int .i64 d1]) x6 (by kernel_rfl) rfl (by kernel_rfl) Sg.w0 (Sg.rs rfl rfl) (Sg.rs rfl rfl) (fun w9 x10 o11 k12 => ?_)
   have q13 := k12 _ _ l8 b7
   refine Sg.asg (v := .bool true) (h := ?_)
   first | refine Sg.nl ?_ | refine Sg.nl1 ?_
   refine Sg.sq ?_
   refine Sg.rg ?_
   have f14 := blk_below p55 (below_step b2 q13)
   refine Sg.ldr (hu := Try.underlying26) (hd := rfl) (hi := by kernel_rfl) (hg := f14) (hx := Sg.rs rfl h55) (h := ?_)
   have f15 := blk_below p57 (below_step b2 q13)
   refine Sg.ldr (hu := Try.underlying26) (hd := rfl) (hi := by kernel_rfl) (hg := f15) (hx := Sg.rs rfl h57) (h := ?_)
   refine Sg.cl (args := #[.agg #[.int .i64 d0, .int .i64 d1], .agg #[.int .i64 la0, .int .i64 la1]]) (hf := Try.func19) (hargs := Sg.a2 (Sg.rs rfl rfl) (Sg.rs rfl rfl)) (h := ?_)
   refine (impl_DaysApart.calls k d0 d1 la0 la1 btw true _ e2).mono ?_
   rintro _ w16 ⟨rfl, b17⟩
   refine ⟨_, _, rfl, (Sg.ps rfl), ?_⟩
   refine Sg.mv (v := .tuple #[.int .i64 btw, .bool true]) (h := ?_)
   refine Sg.ext (v := .int .i64 btw) (h := ?_)
   refine Sg.ext (v := .bool true) (h := ?_)
   refine Sg.asg (v := .int .i64 btw) (h := ?_)
   refine Sg.asg (v := .bool true) (h := ?_)
   first | refine Sg.nl ?_ | refine Sg.nl1 ?_
   refine Sg.sq ?_
   by_cases hbt : btw = days
   ·skip
    refine Sg.rg ?_
    refine Sg.mv (v := .bool true) (h := ?_)
    refine Sg.nt (b := true) (h := ?_)
    refine Sg.mv (v := .bool false) (h := ?_)
    have f18 := blk_below x10 b17
    refine Sg.ldr (hu := Try.underlying26) (hd := rfl) (hi := by kernel_rfl) (hg := f18) (hw := Sg.wy (d := 608) rfl rfl rfl) (h := ?_)
    have f19 := blk_below f14 b17
    refine Sg.ldr (hu := Try.underlying26) (hd := rfl) (hi := by kernel_rfl) (hg := f19) (hw := Sg.wy (d := 608) rfl rfl rfl) (hx := Sg.rs rfl h55) (h := ?_)
    refine Sg.bin (v3 := .bool false) (hw := Sg.wy (d := 608) rfl rfl rfl) (hv := fun w_ x_ y_ => (g3neqD _ _ _ _ w_ x_ y_).trans (by simp)) (h := ?_)
    refine Sg.pk (v := .bool false) (h := ?_)
    refine Sg.mv (v := .bool false) (h := ?_)
    refine Sg.mv (v := .bool true) (hw := Sg.wy (d := 613) rfl rfl rfl) (h := ?_)
    refine Sg.nt (b := true) (hw := Sg.wy (d := 613) rfl rfl rfl) (h := ?_)
    refine Sg.pk (v := .bool false) (h := ?_)
    refine Sg.mv (v := .bool false) (h := ?_)
    refine Sg.mv (v := .int .i64 btw) (hw := Sg.wy (d := 617) rfl rfl rfl) (h := ?_)
    refine Sg.mv (v := .int .i64 days) (hw := Sg.wy (d := 617) rfl rfl rfl) (hs := Sg.rs rfl h56) (h := ?_)
    refine Sg.ineq (c := false) (hw := Sg.wy (d := 617) rfl rfl rfl) (hc := iff_of_false (by simp [hbt]) Bool.false_ne_true) (h := ?_)
    refine Sg.mv (v := .bool false) (hw := Sg.wy (d := 617) rfl rfl rfl) (h := ?_)
    refine Sg.off (hw := Sg.yl (d := 621) rfl rfl rfl) (hb := rfl) (h := ?_)
    refine Sg.off (hw := Sg.yl (d := 621) rfl rfl rfl) (hb := rfl) (h := ?_)
    refine Sg.off (hw := Sg.yl (d := 621) rfl rfl rfl) (hb := rfl) (h := ?_)
    refine Sg.off (hw := Sg.yl (d := 621) rfl rfl rfl) (hb := rfl) (h := ?_)
    refine Sg.pk (v := .bool false) (hw := Sg.wy (d := 617) rfl rfl rfl) (h := ?_)
    refine Sg.pk (v := .bool false) (h := ?_)
    first | refine Sg.nl ?_ | refine Sg.nl1 ?_
    refine Sg.cf rfl rfl ?_
    first | refine Sg.sk ?_ | refine Sg.sk1 ?_
    exact hK _ _ _ (fun j hj => (by simp only [Sg.upd]; rw [if_neg (by omega), if_neg (by omega), if_neg (by omega), if_neg (by omega)])) (below_step (below_step b2 q13) b17)
   ·skip
    refine Sg.rg ?_
    refine Sg.mv (v := .bool true) (h := ?_)
    refine Sg.nt (b := true) (h := ?_)
    refine Sg.mv (v := .bool false) (h := ?_)
    have f20 := blk_below x10 b17
    refine Sg.ldr (hu := Try.underlying26) (hd := rfl) (hi := by kernel_rfl) (hg := f20) (hw := Sg.wy (d := 608) rfl rfl rfl) (h := ?_)
    have f21 := blk_below f14 b17
    refine Sg.ldr (hu := Try.underlying26) (hd := rfl) (hi := by kernel_rfl) (hg := f21) (hw := Sg.wy (d := 608) rfl rfl rfl) (hx := Sg.rs rfl h55) (h := ?_)
    refine Sg.bin (v3 := .bool false) (hw := Sg.wy (d := 608) rfl rfl rfl) (hv := fun w_ x_ y_ => (g3neqD _ _ _ _ w_ x_ y_).trans (by simp)) (h := ?_)
    refine Sg.pk (v := .bool false) (h := ?_)
    refine Sg.mv (v := .bool false) (h := ?_)
    refine Sg.mv (v := .bool true) (hw := Sg.wy (d := 613) rfl rfl rfl) (h := ?_)
    refine Sg.nt (b := true) (hw := Sg.wy (d := 613) rfl rfl rfl) (h := ?_)
    refine Sg.pk (v := .bool false) (h := ?_)
    refine Sg.mv (v := .bool false) (h := ?_)
    refine Sg.mv (v := .int .i64 btw) (hw := Sg.wy (d := 617) rfl rfl rfl) (h := ?_)
    refine Sg.mv (v := .int .i64 days) (hw := Sg.wy (d := 617) rfl rfl rfl) (hs := Sg.rs rfl h56) (h := ?_)
    refine Sg.ineq (c := true) (hw := Sg.wy (d := 617) rfl rfl rfl) (hc := iff_of_true hbt rfl) (h := ?_)
    refine Sg.mv (v := .bool true) (hw := Sg.wy (d := 617) rfl rfl rfl) (h := ?_)
    refine Sg.mv (v := .int .i64 btw) (hw := Sg.wy (d := 621) rfl rfl rfl) (h := ?_)
    refine Sg.mv (v := .int .i64 days) (hw := Sg.wy (d := 621) rfl rfl rfl) (hs := Sg.rs rfl h56) (h := ?_)
    refine Sg.neg (c := wrap64 (-days)) (hw := Sg.wy (d := 621) rfl rfl rfl) (hc := rfl) (h := ?_)
    refine Sg.ineq (c := false) (hw := Sg.wy (d := 621) rfl rfl rfl) (hc := iff_of_false (by have := e3.resolve_left hbt; omega) Bool.false_ne_true) (h := ?_)
    refine Sg.pk (v := .bool false) (hw := Sg.wy (d := 617) rfl rfl rfl) (h := ?_)
    refine Sg.pk (v := .bool false) (h := ?_)
    first | refine Sg.nl ?_ | refine Sg.nl1 ?_
    refine Sg.cf rfl rfl ?_
    first | refine Sg.sk ?_ | refine Sg.sk1 ?_
    exact hK _ _ _ (fun j hj => (by simp only [Sg.upd]; rw [if_neg (by omega), if_neg (by omega), if_neg (by omega), if_neg (by omega)])) (below_step (below_step b2 q13) b17)
theorem g3p10 (k : Nat) (L : List S26) (f0 f1 t0 t1 n : Int) (seven : Bool) (d0 d1 days la0 la1 : Int) (nine : Bool) (a0 a1 b0 b1 apart : Int) (eleven : Bool) (x0 x1 y0 y1 age : Int) (thirteen : Bool) (σ τ : Sg.Fr) (w : World) {rest : Code} {Q : Exit → Act → World → Prop} (hSt : g3St2 L f0 f1 t0 t1 n seven d0 d1 days la0 la1 nine a0 a1 b0 b1 apart eleven x0 x1 y0 y1 age thirteen σ w)
    (h11 : eleven = true → impl_DaysApart.f k b0 b1 a0 a1 = some (apart, true) ∧ ((apart == 0) != (a0 == b0 && a1 == b1)) = false)
    (hK : ∀ σ' τ' w', (∀ j, j < 74 → σ' j = σ j) → Below w.heap.size w w' → rest.wp Try.prog Q (Sg.fr 674 (Sg.mix 86 σ' τ')) w') :
    (Code.seq (g3S 31) rest).wp Try.prog Q (Sg.fr 674 (Sg.mix 86 σ τ)) w := by
  obtain ⟨A48, c48, g49, g50, g55, g57, g61, g62, g67, g68, ⟨h48, h49, h50, h55, h57, h61, h62, h67, h68, h51, h52, h56, h58, h63, h64, h69, h70⟩, ⟨q1, q2⟩, p49, p50, p55, p57, p61, p62, p67, p68⟩ := hSt
  refine Sg.sq ?_
  refine Sg.sq ?_
  refine Sg.rg ?_
  refine Sg.mv (v := .bool eleven) (hs := Sg.rs rfl h64) (h := ?_)
  first | refine Sg.nl ?_ | refine Sg.nl1 ?_
  cases eleven
  ·skip
   refine Sg.cf rfl rfl ?_
   first | refine Sg.sk ?_ | refine Sg.sk1 ?_
   exact hK _ _ _ (fun _ _ => rfl) (Below.refl _ _)
  ·skip
   obtain ⟨e1, e2⟩ := h11 rfl
   refine Sg.ct rfl rfl ?_
   refine Sg.sq ?_
   refine Sg.rg ?_
   refine Sg.ldr (hu := Try.underlying26) (hd := rfl) (hi := by kernel_rfl) (hg := p62) (hx := Sg.rs rfl h62) (h := ?_)
   refine Sg.ldr (hu := Try.underlying26) (hd := rfl) (hi := by kernel_rfl) (hg := p61) (hx := Sg.rs rfl h61) (h := ?_)
   refine Sg.cl (args := #[.agg #[.int .i64 b0, .int .i64 b1], .agg #[.int .i64 a0, .int .i64 a1]]) (hf := Try.func19) (hargs := Sg.a2 (Sg.rs rfl rfl) (Sg.rs rfl rfl)) (h := ?_)
   refine (impl_DaysApart.calls k b0 b1 a0 a1 apart true _ e1).mono ?_
   rintro _ w1 ⟨rfl, b2⟩
   refine ⟨_, _, rfl, (Sg.ps rfl), ?_⟩
   refine Sg.mv (v := .tuple #[.int .i64 apart, .bool true]) (h := ?_)
   refine Sg.ext (v := .int .i64 apart) (h := ?_)
   refine Sg.ext (v := .bool true) (h := ?_)
   refine Sg.asg (v := .int .i64 apart) (h := ?_)
   refine Sg.asg (v := .bool true) (h := ?_)
   first | refine Sg.nl ?_ | refine Sg.nl1 ?_
   refine Sg.sq ?_
   refine Sg.rg ?_
   refine Sg.mv (v := .bool true) (h := ?_)
   refine Sg.nt (b := true) (h := ?_)
   refine Sg.mv (v := .bool false) (h := ?_)
   refine Sg.mv (v := .int .i64 apart) (hw := Sg.wy (d := 637) rfl rfl rfl) (h := ?_)
   refine Sg.mv (v := .int .i64 apart) (hw := Sg.wy (d := 637) rfl rfl rfl) (hs := Sg.rs rfl h63) (h := ?_)
   refine Sg.ineq (c := false) (hw := Sg.wy (d := 637) rfl rfl rfl) (h := ?_)
   refine Sg.pk (v := .bool false) (h := ?_)
   refine Sg.mv (v := .bool false) (h := ?_)
   refine Sg.mv (v := .int .i64 apart) (hw := Sg.wy (d := 642) rfl rfl rfl) (hs := Sg.rs rfl h63) (h := ?_)
   refine Sg.ieql (c := (apart == 0)) (hw := Sg.wy (d := 642) rfl rfl rfl) (h := ?_)
   have f3 := blk_below p61 b2
   refine Sg.ldr (hu := Try.underlying26) (hd := rfl) (hi := by kernel_rfl) (hg := f3) (hw := Sg.wy (d := 642) rfl rfl rfl) (hx := Sg.rs rfl h61) (h := ?_)
   have f4 := blk_below p62 b2
   refine Sg.ldr (hu := Try.underlying26) (hd := rfl) (hi := by kernel_rfl) (hg := f4) (hw := Sg.wy (d := 642) rfl rfl rfl) (hx := Sg.rs rfl h62) (h := ?_)
   refine Sg.bin (v3 := .bool (a0 == b0 && a1 == b1)) (hw := Sg.wy (d := 642) rfl rfl rfl) (hv := fun w_ x_ y_ => (g3eqlD _ _ _ _ w_ x_ y_).trans rfl) (h := ?_)
   refine Sg.bneq (c := false) (hu := Try.underlying4) (hw := Sg.wy (d := 642) rfl rfl rfl) (hc := e2) (h := ?_)
   refine Sg.pk (v := .bool false) (h := ?_)
   first | refine Sg.nl ?_ | refine Sg.nl1 ?_
   refine Sg.cf rfl rfl ?_
   first | refine Sg.sk ?_ | refine Sg.sk1 ?_
   exact hK _ _ _ (fun j hj => (by simp only [Sg.upd]; rw [if_neg (by omega), if_neg (by omega)])) b2
theorem g3bldD {n : Nat} {σ : Sg.Fr} {w : World} {o : Oper} {x y : Operand} {a b : Int} (ho : o.op = .build 26 #[(0, x), (1, y)]) (hx : Sg.Rd n σ x (.int .i64 a)) (hy : Sg.Rd n σ y (.int .i64 b)) : Sg.Yd Try.prog (Sg.fr n σ).eval o w (.agg #[.int .i64 a, .int .i64 b]) := by
  have hu26 := Try.underlying26
  have hx' : (Sg.fr n σ).eval x = .int .i64 a := hx
  have hy' : (Sg.fr n σ).eval y = .int .i64 b := hy
  unfold Sg.Yd execOp
  simp only [ho, List.map_toArray, List.map_cons, List.map_nil, hx', hy']
  go_simp
  first | done | rfl
theorem g3p11 (k : Nat) (L : List S26) (f0 f1 t0 t1 n : Int) (seven : Bool) (d0 d1 days la0 la1 : Int) (nine : Bool) (a0 a1 b0 b1 apart : Int) (eleven : Bool) (x0 x1 y0 y1 age : Int) (thirteen : Bool) (σ τ : Sg.Fr) (w : World) {Q : Exit → Act → World → Prop} (hSt : g3St2 L f0 f1 t0 t1 n seven d0 d1 days la0 la1 nine a0 a1 b0 b1 apart eleven x0 x1 y0 y1 age thirteen σ w)
    (h13 : thirteen = true → age > 0 → ∃ older : Int, impl_AgeOn.f k x0 x1 (wrap64 (y0 - 1)) y1 = some (older, true) ∧ wrap64 (age - 1) = older)
    (hQ : ∀ σ' τ' w', σ' 4 = .bool true → Below w.heap.size w w' → Q .ret (Sg.fr 674 (Sg.mix 86 σ' τ')) w') :
    (Code.seq (g3S 32) (Code.seq (g3S 33) (g3S 34))).wp Try.prog Q (Sg.fr 674 (Sg.mix 86 σ τ)) w := by
  obtain ⟨A48, c48, g49, g50, g55, g57, g61, g62, g67, g68, ⟨h48, h49, h50, h55, h57, h61, h62, h67, h68, h51, h52, h56, h58, h63, h64, h69, h70⟩, ⟨q1, q2⟩, p49, p50, p55, p57, p61, p62, p67, p68⟩ := hSt
  refine Sg.sq ?_
  refine Sg.sq ?_
  by_cases hag : age > 0
  ·skip
   refine Sg.rg ?_
   refine Sg.mv (v := .bool thirteen) (hs := Sg.rs rfl h70) (h := ?_)
   refine Sg.mv (v := .bool thirteen) (h := ?_)
   cases thirteen
   ·skip
    refine Sg.off (hw := Sg.yl (d := 651) rfl rfl rfl) (hb := rfl) (h := ?_)
    refine Sg.off (hw := Sg.yl (d := 651) rfl rfl rfl) (hb := rfl) (h := ?_)
    refine Sg.pk (v := .bool false) (h := ?_)
    first | refine Sg.nl ?_ | refine Sg.nl1 ?_
    refine Sg.cf rfl rfl ?_
    first | refine Sg.sk ?_ | refine Sg.sk1 ?_
    refine Sg.gn fun τ1 => ?_
    refine Sg.sq ?_
    refine Sg.rg ?_
    refine Sg.asg (v := .bool true) (h := ?_)
    first | refine Sg.nl ?_ | refine Sg.nl1 ?_
    refine Sg.gn fun τ2 => ?_
    refine Sg.rt0 ?_
    exact hQ _ _ _ rfl (Below.refl _ _)
   ·skip
    refine Sg.mv (v := .int .i64 age) (hw := Sg.wy (d := 651) rfl rfl rfl) (hs := Sg.rs rfl h69) (h := ?_)
    refine Sg.igtr (c := true) (hw := Sg.wy (d := 651) rfl rfl rfl) (hc := iff_of_true hag rfl) (h := ?_)
    refine Sg.pk (v := .bool true) (h := ?_)
    first | refine Sg.nl ?_ | refine Sg.nl1 ?_
    refine Sg.ct rfl rfl ?_
    refine Sg.sq ?_
    obtain ⟨older, e1, e2⟩ := h13 rfl hag
    have cg0 : w.cell? ⟨g68, 0, none⟩ = some (.int .i64 y0) := (blk_cell p68 0).trans rfl
    have cg1 : w.cell? ⟨g68, 1, none⟩ = some (.int .i64 y1) := (blk_cell p68 1).trans rfl
    refine Sg.rg ?_
    refine Sg.ldr (hu := Try.underlying26) (hd := rfl) (hi := by kernel_rfl) (hg := p67) (hx := Sg.rs rfl h67) (h := ?_)
    refine Sg.yy (hy := Sg.Xfld (sz := 1) (ad' := ⟨g68, 0, none⟩) (k := 0) (hu := Try.underlying26) (hf := rfl) (hsz := by kernel_rfl) (h0 := rfl) (had := rfl) (ho := rfl) (hx := Sg.rs rfl h68)) (h := ?_)
    refine Sg.yy (hy := Sg.Xldi (hu := Try.underlying3) (hc := cg0)) (h := ?_)
    refine Sg.isub (c := wrap64 (y0 - 1)) (hc := rfl) (h := ?_)
    refine Sg.yy (hy := Sg.Xfld (sz := 1) (ad' := ⟨g68, 1, none⟩) (k := 1) (hu := Try.underlying26) (hf := rfl) (hsz := by kernel_rfl) (h0 := rfl) (had := rfl) (ho := rfl) (hx := Sg.rs rfl h68)) (h := ?_)
    refine Sg.yy (hy := Sg.Xldi (hu := Try.underlying3) (hc := cg1)) (h := ?_)
    refine Sg.yy (hy := g3bldD rfl (Sg.rs rfl rfl) (Sg.rs rfl rfl)) (h := ?_)
    refine Sg.cl (args := #[.agg #[.int .i64 x0, .int .i64 x1], .agg #[.int .i64 (wrap64 (y0 - 1)), .int .i64 y1]]) (hf := Try.func16) (hargs := Sg.a2 (Sg.rs rfl rfl) (Sg.rs rfl rfl)) (h := ?_)
    refine (impl_AgeOn.calls k x0 x1 (wrap64 (y0 - 1)) y1 older true _ e1).mono ?_
    rintro _ w1 ⟨rfl, b2⟩
    refine ⟨_, _, rfl, (Sg.ps rfl), ?_⟩
    refine Sg.mv (v := .tuple #[.int .i64 older, .bool true]) (h := ?_)
    refine Sg.ext (v := .int .i64 older) (h := ?_)
    refine Sg.ext (v := .bool true) (h := ?_)
    refine Sg.asg (v := .int .i64 older) (h := ?_)
    refine Sg.asg (v := .bool true) (h := ?_)
    first | refine Sg.nl ?_ | refine Sg.nl1 ?_
    refine Sg.sq ?_
    refine Sg.rg ?_
    refine Sg.mv (v := .bool true) (h := ?_)
    refine Sg.nt (b := true) (h := ?_)
    refine Sg.mv (v := .bool false) (h := ?_)
    refine Sg.mv (v := .int .i64 older) (hw := Sg.wy (d := 668) rfl rfl rfl) (h := ?_)
    refine Sg.mv (v := .int .i64 age) (hw := Sg.wy (d := 668) rfl rfl rfl) (hs := Sg.rs rfl h69) (h := ?_)
    refine Sg.isub (c := older) (hw := Sg.wy (d := 668) rfl rfl rfl) (hc := e2) (h := ?_)
    refine Sg.ineq (c := false) (hw := Sg.wy (d := 668) rfl rfl rfl) (h := ?_)
    refine Sg.pk (v := .bool false) (h := ?_)
    first | refine Sg.nl ?_ | refine Sg.nl1 ?_
    refine Sg.cf rfl rfl ?_
    first | refine Sg.sk ?_ | refine Sg.sk1 ?_
    refine Sg.gn fun τ1 => ?_
    refine Sg.sq ?_
    refine Sg.rg ?_
    refine Sg.asg (v := .bool true) (h := ?_)
    first | refine Sg.nl ?_ | refine Sg.nl1 ?_
    refine Sg.gn fun τ2 => ?_
    refine Sg.rt0 ?_
    exact hQ _ _ _ rfl b2
  ·skip
   refine Sg.rg ?_
   refine Sg.mv (v := .bool thirteen) (hs := Sg.rs rfl h70) (h := ?_)
   refine Sg.mv (v := .bool thirteen) (h := ?_)
   cases thirteen
   ·skip
    refine Sg.off (hw := Sg.yl (d := 651) rfl rfl rfl) (hb := rfl) (h := ?_)
    refine Sg.off (hw := Sg.yl (d := 651) rfl rfl rfl) (hb := rfl) (h := ?_)
    refine Sg.pk (v := .bool false) (h := ?_)
    first | refine Sg.nl ?_ | refine Sg.nl1 ?_
    refine Sg.cf rfl rfl ?_
    first | refine Sg.sk ?_ | refine Sg.sk1 ?_
    refine Sg.gn fun τ1 => ?_
    refine Sg.sq ?_
    refine Sg.rg ?_
    refine Sg.asg (v := .bool true) (h := ?_)
    first | refine Sg.nl ?_ | refine Sg.nl1 ?_
    refine Sg.gn fun τ2 => ?_
    refine Sg.rt0 ?_
    exact hQ _ _ _ rfl (Below.refl _ _)
   ·skip
    refine Sg.mv (v := .int .i64 age) (hw := Sg.wy (d := 651) rfl rfl rfl) (hs := Sg.rs rfl h69) (h := ?_)
    refine Sg.igtr (c := false) (hw := Sg.wy (d := 651) rfl rfl rfl) (hc := iff_of_false hag Bool.false_ne_true) (h := ?_)
    refine Sg.pk (v := .bool false) (h := ?_)
    first | refine Sg.nl ?_ | refine Sg.nl1 ?_
    refine Sg.cf rfl rfl ?_
    first | refine Sg.sk ?_ | refine Sg.sk1 ?_
    refine Sg.gn fun τ1 => ?_
    refine Sg.sq ?_
    refine Sg.rg ?_
    refine Sg.asg (v := .bool true) (h := ?_)
    first | refine Sg.nl ?_ | refine Sg.nl1 ?_
    refine Sg.gn fun τ2 => ?_
    refine Sg.rt0 ?_
    exact hQ _ _ _ rfl (Below.refl _ _)
/-- What the first half's calls answer, and what the law asks of it. -/
structure g3F1 (k : Nat) (l0 : List Int) (B : List S26) (o0 o1 n0 n1 : Int) (who : List Int) (ok : Bool) (m0 m1 : Int) (whose : List Int) (one : Bool) (ages : List Int) (three : Bool) (sum : Int) : Prop where
  hB : B.length ≤ 1048576
  hD : spec_DrawNextBirthday.f k l0 = some (B, o0, o1)
  hNI : impl_NextBirthday.f k B o0 o1 = some (n0, n1, who, ok)
  hNS : spec_NextBirthday.f k B o0 o1 = some (n0, n1, who, ok)
  hLI : impl_LastBirthday.f k B o0 o1 = some (m0, m1, whose, one)
  hLS : spec_LastBirthday.f k B o0 o1 = some (m0, m1, whose, one)
  hAI : impl_AgesOn.f k B o0 o1 = some (ages, three)
  hAS : spec_AgesOn.f k B o0 o1 = some (ages, three)
  hSI : impl_SumOfAgesOn.f k B o0 o1 = some (sum, three)
  hSS : spec_SumOfAgesOn.f k B o0 o1 = some (sum, three)
  hW1 : laws_gSame.f k who who = some true
  hW2 : laws_gSame.f k whose whose = some true
  hW3 : laws_gSame.f k ages ages = some true
  hOT : ok = true → three = true
  hWT : one = true → three = true
  hlen : three = true → ages.length = B.length
  hsum : three = true → laws_gSum.f k ages = some sum
  heach : three = true → ∀ i : Nat, i < ages.length → ∃ days, impl_AgeOn.f k (rd_T26 B (i : Int)).f0 (rd_T26 B (i : Int)).f1 o0 o1 = some (rd ages (i : Int), true) ∧ 0 ≤ rd ages (i : Int) ∧ impl_DaysOld.f k (rd_T26 B (i : Int)).f0 (rd_T26 B (i : Int)).f1 o0 o1 = some (days, true) ∧ wrap64 (Int.tdiv days 365) = rd ages (i : Int)
  hok : ok = true → ∃ (then_ : List Int) (apart b0 b1 : Int), impl_BirthdaysBetween.f k B o0 o1 n0 n1 = some (((who.length : Nat) : Int), true) ∧ 1 ≤ who.length ∧ laws_gRises.f k who = some true ∧ impl_AgesOn.f k B n0 n1 = some (then_, true) ∧ impl_DaysApart.f k o0 o1 n0 n1 = some (apart, true) ∧ 1 ≤ apart ∧ apart ≤ 365 ∧ impl_AddDays.f k n0 n1 (-1) = some (b0, b1, true) ∧ impl_BirthdaysBetween.f k B o0 o1 b0 b1 = some (0, true) ∧ (then_.length = B.length ∧ ages.length = B.length) ∧
      ∀ i : Nat, i < B.length → ∃ has : Bool, laws_gHas.f k who (i : Int) = some has ∧ (has = true → wrap64 (rd ages (i : Int) + 1) = rd then_ (i : Int)) ∧ (has = false → rd then_ (i : Int) = rd ages (i : Int))
  hone : one = true → ∃ apart : Int, impl_DaysApart.f k o0 o1 m0 m1 = some (apart, true) ∧ apart < 365 ∧ laws_gRises.f k whose = some true ∧ (1 ≤ whose.length ∧ whose.length ≤ 1048576) ∧
      ∀ i : Nat, i < whose.length → 0 ≤ rd whose (i : Int) ∧ rd whose (i : Int) < ((B.length : Nat) : Int) ∧ (rd_T26 B (rd whose (i : Int))).f1 = m1 ∧ (rd_T26 B (rd whose (i : Int))).f0 < m0

/-- The same of the second half. -/
structure g3F2 (k : Nat) (l1 : List Int) (L : List S26) (f0 f1 t0 t1 n : Int) (seven : Bool) (d0 d1 days la0 la1 : Int) (nine : Bool) (a0 a1 b0 b1 apart : Int) (eleven : Bool) (x0 x1 y0 y1 age : Int) (thirteen : Bool) (z0 z1 : Int) (isd : Bool) : Prop where
  hD2 : spec_DrawBirthdaysBetween.f k l1 = some (L, f0, f1, t0, t1)
  hBI : impl_BirthdaysBetween.f k L f0 f1 t0 t1 = some (n, seven)
  hBS : spec_BirthdaysBetween.f k L f0 f1 t0 t1 = some (n, seven)
  hD3 : spec_DrawAddDays.f l1 = some (d0, d1, days)
  hDI : impl_AddDays.f k d0 d1 days = some (la0, la1, nine)
  hDS : spec_AddDays.f k d0 d1 days = some (la0, la1, nine)
  hD4 : spec_DrawDaysApart.f l1 = some (a0, a1, b0, b1)
  hPI : impl_DaysApart.f k a0 a1 b0 b1 = some (apart, eleven)
  hPS : spec_DaysApart.f k a0 a1 b0 b1 = some (apart, eleven)
  hD5 : spec_DrawAgeOn.f l1 = some (x0, x1, y0, y1)
  hGI : impl_AgeOn.f k x0 x1 y0 y1 = some (age, thirteen)
  hGS : spec_AgeOn.f x0 x1 y0 y1 = some (age, thirteen)
  hD6 : spec_DrawIsDate.f l1 = some (z0, z1)
  hZI : impl_IsDate.f z0 z1 = some isd
  hZS : spec_IsDate.f z0 z1 = some isd
  h7 : seven = true → ∃ p q : Int, impl_SumOfAgesOn.f k L f0 f1 = some (p, true) ∧ impl_SumOfAgesOn.f k L t0 t1 = some (q, true) ∧ wrap64 (q - p) = n
  h9 : nine = true → ∃ btw : Int, impl_AddDays.f k la0 la1 (wrap64 (-days)) = some (d0, d1, true) ∧ impl_DaysApart.f k d0 d1 la0 la1 = some (btw, true) ∧ (btw = days ∨ btw = wrap64 (-days))
  h11 : eleven = true → impl_DaysApart.f k b0 b1 a0 a1 = some (apart, true) ∧ ((apart == 0) != (a0 == b0 && a1 == b1)) = false
  h13 : thirteen = true → age > 0 → ∃ older : Int, impl_AgeOn.f k x0 x1 (wrap64 (y0 - 1)) y1 = some (older, true) ∧ wrap64 (age - 1) = older

def laws_FnBirthdaysAge.Pure : Prop := ∀ (l0 : List Int) (l1 : List Int), l0.length ≤ maxLen → l0.length * 1 ≤ 140737488351232 → (∀ x ∈ l0, (Lit.int .u8 x).wf = true) → l1.length ≤ maxLen → l1.length * 1 ≤ 140737488351232 → (∀ x ∈ l1, (Lit.int .u8 x).wf = true) → laws_big.f l0 l1 = some true ∨ (laws_big.f l0 l1 = some false ∧ ∃ k, (∃ B o0 o1 n0 n1 who ok m0 m1 whose one ages three sum, g3F1 k l0 B o0 o1 n0 n1 who ok m0 m1 whose one ages three sum) ∧ ∃ L f0 f1 t0 t1 n seven d0 d1 days la0 la1 nine a0 a1 b0 b1 apart eleven x0 x1 y0 y1 age thirteen z0 z1 isd, g3F2 k l1 L f0 f1 t0 t1 n seven d0 d1 days la0 la1 nine a0 a1 b0 b1 apart eleven x0 x1 y0 y1 age thirteen z0 z1 isd)
theorem g3body : Try.f3.body = some (Code.seq (g3S 0) (Code.seq (g3S 1) (Code.seq (g3S 2) (Code.seq (g3S 3) (Code.seq (g3S 4) (Code.seq (g3S 5) (Code.seq (g3S 6) (Code.seq (g3S 7) (Code.seq (g3S 8) (Code.seq (g3S 9) (Code.seq (g3S 10) (Code.seq (g3S 11) (Code.seq (g3S 12) (Code.seq (g3S 13) (Code.seq (g3S 14) (Code.seq (g3S 15) (Code.seq (g3S 16) (Code.seq (g3S 17) (Code.seq (g3S 18) (Code.seq (g3S 19) (Code.seq (g3S 20) (Code.seq (g3S 21) (Code.seq (g3S 22) (Code.seq (g3S 23) (Code.seq (g3S 24) (Code.seq (g3S 25) (Code.seq (g3S 26) (Code.seq (g3S 27) (Code.seq (g3S 28) (Code.seq (g3S 29) (Code.seq (g3S 30) (Code.seq (g3S 31) (Code.seq (g3S 32) (Code.seq (g3S 33) (g3S 34))))))))))))))))))))))))))))))))))) := by kernel_rfl
theorem g3early (A0 : Option Addr) (c0 : Nat) (l0 : List Int) (A1 : Option Addr) (c1 : Nat) (l1 : List Int) (w : World) (hC0 : Kd.C (Kd.int .u8) w A0 l0.length l0) (hc0 : l0.length ≤ c0) (hC1 : Kd.C (Kd.int .u8) w A1 l1.length l1) (hc1 : l1.length ≤ c1) (τ : Sg.Fr) {Q : Exit → Act → World → Prop} (hQ : ∀ σ' τ' w', σ' 4 = .bool true → Below w.heap.size w w' → Q .ret (Sg.fr 674 (Sg.mix 86 σ' τ')) w') (hbig : laws_big.f l0 l1 = some true) : (Code.seq (g3S 0) (Code.seq (g3S 1) (Code.seq (g3S 2) (Code.seq (g3S 3) (Code.seq (g3S 4) (Code.seq (g3S 5) (Code.seq (g3S 6) (Code.seq (g3S 7) (Code.seq (g3S 8) (Code.seq (g3S 9) (Code.seq (g3S 10) (Code.seq (g3S 11) (Code.seq (g3S 12) (Code.seq (g3S 13) (Code.seq (g3S 14) (Code.seq (g3S 15) (Code.seq (g3S 16) (Code.seq (g3S 17) (Code.seq (g3S 18) (Code.seq (g3S 19) (Code.seq (g3S 20) (Code.seq (g3S 21) (Code.seq (g3S 22) (Code.seq (g3S 23) (Code.seq (g3S 24) (Code.seq (g3S 25) (Code.seq (g3S 26) (Code.seq (g3S 27) (Code.seq (g3S 28) (Code.seq (g3S 29) (Code.seq (g3S 30) (Code.seq (g3S 31) (Code.seq (g3S 32) (Code.seq (g3S 33) (g3S 34))))))))))))))))))))))))))))))))))).wp Try.prog Q (Sg.fr 674 (Sg.mix 86 (fun i => (#[.slice A0 l0.length c0, .slice A1 l1.length c1] : Array Value).getD i undef) τ)) w := by
  refine Sg.sq ?_
  refine Sg.rg ?_
  refine Sg.asg (v := .bool false) (h := ?_)
  first | refine Sg.nl ?_ | refine Sg.nl1 ?_
  refine Sg.gn fun τ1 => ?_
  refine Sg.sq ?_
  refine Sg.sq ?_
  refine Sg.rg ?_
  refine Sg.mv (v := .slice A0 l0.length c0) (h := ?_)
  refine Sg.mv (v := .slice A1 l1.length c1) (h := ?_)
  refine Sg.cl (args := #[.slice A0 l0.length c0, .slice A1 l1.length c1]) (hf := Try.func4) (hargs := Sg.a2 (Sg.rs rfl rfl) (Sg.rs rfl rfl)) (h := ?_)
  refine (laws_big.calls A0 c0 l0 A1 c1 l1 true _ hC0 hc0 hC1 hc1 hbig).mono ?_
  rintro _ w1 ⟨rfl, d3⟩
  have b2 := d3.below
  refine ⟨_, _, rfl, (Sg.ps rfl), ?_⟩
  first | refine Sg.nl ?_ | refine Sg.nl1 ?_
  refine Sg.ct rfl rfl ?_
  refine Sg.sq ?_
  refine Sg.rg ?_
  refine Sg.asg (v := .bool true) (h := ?_)
  first | refine Sg.nl ?_ | refine Sg.nl1 ?_
  refine Sg.rt ?_
  exact hQ _ _ _ rfl b2
theorem g3whole (A0 : Option Addr) (c0 : Nat) (l0 : List Int) (A1 : Option Addr) (c1 : Nat) (l1 : List Int) (w : World) (hC0 : Kd.C (Kd.int .u8) w A0 l0.length l0) (hc0 : l0.length ≤ c0) (hC1 : Kd.C (Kd.int .u8) w A1 l1.length l1) (hc1 : l1.length ≤ c1) (τ : Sg.Fr) {Q : Exit → Act → World → Prop} (hQp : ∀ c (a : Act) d v w, Q (.panic c) (a.put d v) w → Q (.panic c) a w) (hQ : ∀ σ' τ' w', σ' 4 = .bool true → Below w.heap.size w w' → Q .ret (Sg.fr 674 (Sg.mix 86 σ' τ')) w') (hbig : laws_big.f l0 l1 = some false) (k : Nat) (hf1 : ∃ B o0 o1 n0 n1 who ok m0 m1 whose one ages three sum, g3F1 k l0 B o0 o1 n0 n1 who ok m0 m1 whose one ages three sum) (hf2 : ∃ L f0 f1 t0 t1 n seven d0 d1 days la0 la1 nine a0 a1 b0 b1 apart eleven x0 x1 y0 y1 age thirteen z0 z1 isd, g3F2 k l1 L f0 f1 t0 t1 n seven d0 d1 days la0 la1 nine a0 a1 b0 b1 apart eleven x0 x1 y0 y1 age thirteen z0 z1 isd) : (Code.seq (g3S 0) (Code.seq (g3S 1) (Code.seq (g3S 2) (Code.seq (g3S 3) (Code.seq (g3S 4) (Code.seq (g3S 5) (Code.seq (g3S 6) (Code.seq (g3S 7) (Code.seq (g3S 8) (Code.seq (g3S 9) (Code.seq (g3S 10) (Code.seq (g3S 11) (Code.seq (g3S 12) (Code.seq (g3S 13) (Code.seq (g3S 14) (Code.seq (g3S 15) (Code.seq (g3S 16) (Code.seq (g3S 17) (Code.seq (g3S 18) (Code.seq (g3S 19) (Code.seq (g3S 20) (Code.seq (g3S 21) (Code.seq (g3S 22) (Code.seq (g3S 23) (Code.seq (g3S 24) (Code.seq (g3S 25) (Code.seq (g3S 26) (Code.seq (g3S 27) (Code.seq (g3S 28) (Code.seq (g3S 29) (Code.seq (g3S 30) (Code.seq (g3S 31) (Code.seq (g3S 32) (Code.seq (g3S 33) (g3S 34))))))))))))))))))))))))))))))))))).wp Try.prog Q (Sg.fr 674 (Sg.mix 86 (fun i => (#[.slice A0 l0.length c0, .slice A1 l1.length c1] : Array Value).getD i undef) τ)) w := by
  refine Sg.sq ?_
  refine Sg.rg ?_
  refine Sg.asg (v := .bool false) (h := ?_)
  first | refine Sg.nl ?_ | refine Sg.nl1 ?_
  refine Sg.gn fun τ1 => ?_
  refine Sg.sq ?_
  refine Sg.sq ?_
  refine Sg.rg ?_
  refine Sg.mv (v := .slice A0 l0.length c0) (h := ?_)
  refine Sg.mv (v := .slice A1 l1.length c1) (h := ?_)
  refine Sg.cl (args := #[.slice A0 l0.length c0, .slice A1 l1.length c1]) (hf := Try.func4) (hargs := Sg.a2 (Sg.rs rfl rfl) (Sg.rs rfl rfl)) (h := ?_)
  refine (laws_big.calls A0 c0 l0 A1 c1 l1 false _ hC0 hc0 hC1 hc1 hbig).mono ?_
  rintro _ w1 ⟨rfl, d3⟩
  have b2 := d3.below
  refine ⟨_, _, rfl, (Sg.ps rfl), ?_⟩
  first | refine Sg.nl ?_ | refine Sg.nl1 ?_
  refine Sg.cf rfl rfl ?_
  first | refine Sg.sk ?_ | refine Sg.sk1 ?_
  refine Sg.gn fun τ2 => ?_
  obtain ⟨B, o0, o1, n0, n1, who, ok, m0, m1, whose, one, ages, three, sum, h1⟩ := hf1
  obtain ⟨L, f0, f1, t0, t1, n, seven, d0, d1, days, la0, la1, nine, a0, a1, b0, b1, apart, eleven, x0, x1, y0, y1, age, thirteen, z0, z1, isd, h2⟩ := hf2
  have hb0 := b2
  have f4 := Kd.C_below hC0 b2
  refine g3p1 k A0 c0 l0 B o0 o1 n0 n1 who ok m0 m1 whose one ages three sum _ _ _ rfl f4 hc0 h1.hD h1.hNI h1.hNS h1.hLI h1.hLS h1.hAI h1.hAS h1.hSI h1.hSS h1.hW1 h1.hW2 h1.hW3 h1.hOT h1.hWT (fun σ1 τ1 w1 hs1 e1 hb1 => ?_)
  refine g3p3 k B o0 o1 n0 n1 who ok m0 m1 whose one ages three sum σ1 τ1 w1 hQp hs1 h1.hB h1.hlen h1.hsum h1.heach (fun σ2 τ2 w2 k2 hb2 => ?_)
  have hs2 := hs1.keep (fun i _ hi => k2 i (by omega)) hb2
  refine g3p4 k B o0 o1 n0 n1 who ok m0 m1 whose one ages three sum σ2 τ2 w2 hQp hs2 h1.hB h1.hok (fun σ3 τ3 w3 k3 hb3 => ?_)
  have hs3 := hs2.keep (fun i _ hi => k3 i (by omega)) hb3
  refine g3p5 k B o0 o1 n0 n1 who ok m0 m1 whose one ages three sum σ3 τ3 w3 hQp hs3 h1.hB h1.hone (fun σ4 τ4 w4 k4 hb4 => ?_)
  have hb := below_step (below_step (below_step (below_step hb0 hb1) hb2) hb3) hb4
  refine g3p6 k A1 c1 l1 L f0 f1 t0 t1 n seven d0 d1 days la0 la1 nine a0 a1 b0 b1 apart eleven x0 x1 y0 y1 age thirteen z0 z1 isd σ4 τ4 w4 hQp ((k4 1 (by decide)).trans ((k3 1 (by decide)).trans ((k2 1 (by decide)).trans (e1.trans rfl)))) (Kd.C_below hC1 hb) hc1 h2.hD2 h2.hBI h2.hBS h2.hD3 h2.hDI h2.hDS h2.hD4 h2.hPI h2.hPS h2.hD5 h2.hGI h2.hGS h2.hD6 h2.hZI h2.hZS (fun σ5 τ5 w5 hs5 hb5 => ?_)
  refine g3p8 k L f0 f1 t0 t1 n seven d0 d1 days la0 la1 nine a0 a1 b0 b1 apart eleven x0 x1 y0 y1 age thirteen σ5 τ5 w5 hs5 h2.h7 (fun σ6 τ6 w6 k6 hb6 => ?_)
  have hs6 := hs5.keep (fun i _ hi => k6 i (by omega)) hb6
  refine g3p9 k L f0 f1 t0 t1 n seven d0 d1 days la0 la1 nine a0 a1 b0 b1 apart eleven x0 x1 y0 y1 age thirteen σ6 τ6 w6 hs6 h2.h9 (fun σ7 τ7 w7 k7 hb7 => ?_)
  have hs7 := hs6.keep (fun i _ hi => k7 i (by omega)) hb7
  refine g3p10 k L f0 f1 t0 t1 n seven d0 d1 days la0 la1 nine a0 a1 b0 b1 apart eleven x0 x1 y0 y1 age thirteen σ7 τ7 w7 hs7 h2.h11 (fun σ8 τ8 w8 k8 hb8 => ?_)
  have hs8 := hs7.keep (fun i _ hi => k8 i (by omega)) hb8
  exact g3p11 k L f0 f1 t0 t1 n seven d0 d1 days la0 la1 nine a0 a1 b0 b1 apart eleven x0 x1 y0 y1 age thirteen σ8 τ8 w8 hs8 h2.h13 (fun σ9 τ9 w9 h4 hb9 => hQ _ _ _ h4 (below_step (below_step (below_step (below_step (below_step hb hb5) hb6) hb7) hb8) hb9))
theorem laws_FnBirthdaysAge.walk (P : laws_FnBirthdaysAge.Pure) (a0 : Option Addr) (len0 cap0 : Nat) (z0 : List Int) (a1 : Option Addr) (len1 cap1 : Nat) (z1 : List Int) (w : World) (w0 : (a0 = none ∧ len0 = 0 ∧ cap0 = 0 ∧ z0 = []) ∨ ∃ x, a0 = some x ∧ len0 ≤ cap0 ∧ cap0 ≤ maxLen ∧ z0.length = cap0 ∧ (∀ i, i < z0.length → w.cell? (x.add i) = some (.int .u8 (z0.getD i 0))) ∧ ∀ n ∈ z0, (Lit.int .u8 n).wf = true) (y0 : len0 * 1 ≤ 140737488351232) (w1 : (a1 = none ∧ len1 = 0 ∧ cap1 = 0 ∧ z1 = []) ∨ ∃ x, a1 = some x ∧ len1 ≤ cap1 ∧ cap1 ≤ maxLen ∧ z1.length = cap1 ∧ (∀ i, i < z1.length → w.cell? (x.add i) = some (.int .u8 (z1.getD i 0))) ∧ ∀ n ∈ z1, (Lit.int .u8 n).wf = true) (y1 : len1 * 1 ≤ 140737488351232) :
    Calls Try.prog 3 #[.slice a0 len0 cap0, .slice a1 len1 cap1] w fun e w' => e = .returned (.bool true) ∧ Below w.heap.size w w' := by
  obtain ⟨l0, rfl, hr0, hm0, hw0, hc0⟩ := ReadsInt.ofRowC w0
  obtain ⟨l1, rfl, hr1, hm1, hw1, hc1⟩ := ReadsInt.ofRowC w1
  have hC0 : Kd.C (Kd.int .u8) w a0 l0.length l0 := Kd.C_of_reads (d := (0 : Int)) (h1 := fun _ => rfl) hr0
  have hC1 : Kd.C (Kd.int .u8) w a1 l1.length l1 := Kd.C_of_reads (d := (0 : Int)) (h1 := fun _ => rfl) hr1
  refine calls_of_wp Try.func3 g3body ?_
  rw [Sg.enter (n := 674) (by rw [Try.ntmps3]; rfl), Sg.to_mix (m := 86)]
  have hQp : ∀ c (a : Act) d v (w' : World), bodyPost Try.prog Try.f3 (fun e w' => e = .returned (.bool true) ∧ Below w.heap.size w w') (.panic c) (a.put d v) w' → bodyPost Try.prog Try.f3 (fun e w' => e = .returned (.bool true) ∧ Below w.heap.size w w') (.panic c) a w' := fun c a d v w' h => by cases d <;> exact h
  have hQ : ∀ σ' τ' (w' : World), σ' 4 = .bool true → Below w.heap.size w w' → bodyPost Try.prog Try.f3 (fun e w' => e = .returned (.bool true) ∧ Below w.heap.size w w') .ret (Sg.fr 674 (Sg.mix 86 σ' τ')) w' := fun σ' τ' w' h4 hb =>
    bodyPost_ret (v := .bool true) (by rw [results_tmp (t := 4) rfl, Sg.fr_getD (by decide)]; exact congrArg (fun v => Result.ok v w') h4) rfl ⟨rfl, hb⟩
  generalize bodyPost Try.prog Try.f3 (fun e w' => e = .returned (.bool true) ∧ Below w.heap.size w w') = Q at hQp hQ ⊢
  rcases P l0 l1 hm0 y0 hw0 hm1 y1 hw1 with hbig | ⟨hbig, k, hf1, hf2⟩
  · exact g3early a0 cap0 l0 a1 cap1 l1 w hC0 hc0 hC1 hc1 _ hQ hbig
  · exact g3whole a0 cap0 l0 a1 cap1 l1 w hC0 hc0 hC1 hc1 _ hQp hQ hbig k hf1 hf2

end Go.Proofs.Ytaabfjfdalcceaa.E
