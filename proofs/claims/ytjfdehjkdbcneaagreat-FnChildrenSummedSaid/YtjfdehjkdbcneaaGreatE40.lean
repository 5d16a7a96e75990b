-- WRITTEN by xprint.py, a program of this session that drives the kit's printer: out of the translation. Lean checks it.
import Derived.Test.YtjfdehjkdbcneaaGreatE0
import Derived.Test.YtjfdehjkdbcneaaGreatE1
import Derived.Test.YtjfdehjkdbcneaaGreatE3
import Derived.Test.YtjfdehjkdbcneaaGreatE9
import Derived.Test.YtjfdehjkdbcneaaGreatE12
import Derived.Test.YtjfdehjkdbcneaaGreatE15
import Derived.Test.YtjfdehjkdbcneaaGreatE17
import Derived.Test.YtjfdehjkdbcneaaGreatE18
import Derived.Test.YtjfdehjkdbcneaaGreatE19
import Derived.Test.YtjfdehjkdbcneaaGreatE20
import Derived.Test.YtjfdehjkdbcneaaGreatE21
import Derived.Test.YtjfdehjkdbcneaaGreatE23
import Derived.Test.YtjfdehjkdbcneaaGreatE24
import Derived.Test.YtjfdehjkdbcneaaGreatE27
import Derived.Test.YtjfdehjkdbcneaaGreatE30
import Derived.Test.YtjfdehjkdbcneaaGreatE31
import Derived.Test.YtjfdehjkdbcneaaGreatE32
import Derived.Test.YtjfdehjkdbcneaaGreatE33
import Derived.Test.YtjfdehjkdbcneaaGreatE35
import Derived.Test.YtjfdehjkdbcneaaGreatE38
import Derived.Test.YtjfdehjkdbcneaaGreatE39
import Derived.Test.YtjfdehjkdbcneaaGreatWm
namespace Go.Proofs.YtjfdehjkdbcneaaGreat.E
open Go.RowKit Go.Proofs.YtjfdehjkdbcneaaGreatW.PrintWords Go.Proofs.YtjfdehjkdbcneaaGreatW.PrintLast
set_option linter.unusedVariables false
set_option linter.unusedSimpArgs false

-- OURS, BY HAND
/-! ### laws_FnChildrenSummed: function 3 -/
-- func laws.FnChildrenSummed
-- ext rounds=1 making=1
-- needs laws.big
-- needs spec.DrawSetsApart
-- needs impl.SetsApart
-- needs spec.SetsApart
-- needs impl.ProductsOfSum
-- needs spec.ProductsOfSum
-- needs impl.GreatestProduct
-- needs spec.GreatestProduct
-- needs impl.CountBySum
-- needs spec.CountBySum
-- needs laws.qRows
-- needs laws.qSame
-- needs laws.qRises
-- needs laws.qOrdered
-- needs laws.qSum
-- needs impl.IsSet
-- needs laws.qHas
-- needs laws.qHasRow
-- needs spec.DrawNextSet
-- needs impl.NextSet
-- needs spec.NextSet
-- needs spec.DrawLaterSet
-- needs impl.LaterSet
-- needs spec.LaterSet
-- needs spec.DrawMostSets
-- needs impl.MostSets
-- needs spec.MostSets
-- needs laws.qBefore
-- needs impl.CountSets
-- seat YtjfdehjkdbcneaaGreat
-- import Derived.Test.YtjfdehjkdbcneaaGreatSig
set_option maxRecDepth 100000
set_option maxHeartbeats 4000000
noncomputable def g4nth : Nat → Code → Code
  | 0, .seq a _ => a
  | 0, c => c
  | k + 1, .seq _ b => g4nth k b
  | _ + 1, c => c
noncomputable def g4S (i : Nat) : Code := g4nth i (Tryz.f3.body.getD .skip)
/-- The product of the first numbers of a list, step by step. -/
def prodTo (s : List Int) : Nat → Int
  | 0 => 1
  | j + 1 => wrap64 (prodTo s j * rd s ((j : Nat) : Int))
/-- Are the first numbers so far apart? -/
def farTo (ap : Int) (s : List Int) : Nat → Bool
  | 0 => true
  | j + 1 => farTo ap s j && decide (wrap64 (rd s ((1 + j : Nat) : Int) - rd s ((j : Nat) : Int)) ≥ ap)
/-- The slots and the memory behind a part of the law's calls. -/
def g4St1 (children : Int) (sum : Int) (apart : Int) (sets : List (List Int)) (ok : Bool) (products : List Int) (one : Bool) (greatest : Int) (three : Bool) (count : Int) (σ : Sg.Fr) (w : World) : Prop := ∃ (A8 : Option Addr) (c8 : Nat) (A12 : Option Addr) (c12 : Nat), (σ 5 = .int .i64 children ∧ σ 6 = .int .i64 sum ∧ σ 7 = .int .i64 apart ∧ σ 8 = .slice A8 sets.length c8 ∧ σ 9 = .bool ok ∧ σ 12 = .slice A12 products.length c12 ∧ σ 13 = .bool one ∧ σ 16 = .int .i64 greatest ∧ σ 17 = .bool three ∧ σ 20 = .int .i64 count) ∧ (Kd.C (Kd.slice 3 (Kd.int .i64)) w A8 sets.length sets ∧ sets.length ≤ c8) ∧ (Kd.C (Kd.int .i64) w A12 products.length products ∧ products.length ≤ c12)
theorem g4St1.keep {children : Int} {sum : Int} {apart : Int} {sets : List (List Int)} {ok : Bool} {products : List Int} {one : Bool} {greatest : Int} {three : Bool} {count : Int} {σ σ' : Sg.Fr} {w w' : World} (h : g4St1 children sum apart sets ok products one greatest three count σ w) (hs : ∀ i, 5 ≤ i → i ≤ 20 → σ' i = σ i) (hb : Below w.heap.size w w') : g4St1 children sum apart sets ok products one greatest three count σ' w' := by
  obtain ⟨A8, c8, A12, c12, ⟨h5, h6, h7, h8, h9, h12, h13, h16, h17, h20⟩, ⟨q8, p8⟩, ⟨q12, p12⟩⟩ := h
  exact ⟨A8, c8, A12, c12, ⟨(hs 5 (by decide) (by decide)).trans h5, (hs 6 (by decide) (by decide)).trans h6, (hs 7 (by decide) (by decide)).trans h7, (hs 8 (by decide) (by decide)).trans h8, (hs 9 (by decide) (by decide)).trans h9, (hs 12 (by decide) (by decide)).trans h12, (hs 13 (by decide) (by decide)).trans h13, (hs 16 (by decide) (by decide)).trans h16, (hs 17 (by decide) (by decide)).trans h17, (hs 20 (by decide) (by decide)).trans h20⟩, ⟨Kd.C_below q8 hb, p8⟩, ⟨Kd.C_below q12 hb, p12⟩⟩
/-- The slots and the memory behind a part of the law's calls. -/
def g4St2 (set_ : List Int) (next : List Int) (seven : Bool) (u : List Int) (years : Int) (later : List Int) (nine : Bool) (c : Int) (from_ : Int) (to_ : Int) (at_ : Int) (most : Int) (eleven : Bool) (σ : Sg.Fr) (w : World) : Prop := ∃ (A33 : Option Addr) (c33 : Nat) (A34 : Option Addr) (c34 : Nat) (A38 : Option Addr) (c38 : Nat) (A40 : Option Addr) (c40 : Nat), (σ 33 = .slice A33 set_.length c33 ∧ σ 34 = .slice A34 next.length c34 ∧ σ 35 = .bool seven ∧ σ 38 = .slice A38 u.length c38 ∧ σ 39 = .int .i64 years ∧ σ 40 = .slice A40 later.length c40 ∧ σ 41 = .bool nine ∧ σ 44 = .int .i64 c ∧ σ 45 = .int .i64 from_ ∧ σ 46 = .int .i64 to_ ∧ σ 47 = .int .i64 at_ ∧ σ 48 = .int .i64 most ∧ σ 49 = .bool eleven) ∧ (Kd.C (Kd.int .i64) w A33 set_.length set_ ∧ set_.length ≤ c33) ∧ (Kd.C (Kd.int .i64) w A34 next.length next ∧ next.length ≤ c34) ∧ (Kd.C (Kd.int .i64) w A38 u.length u ∧ u.length ≤ c38) ∧ (Kd.C (Kd.int .i64) w A40 later.length later ∧ later.length ≤ c40)
theorem g4St2.keep {set_ : List Int} {next : List Int} {seven : Bool} {u : List Int} {years : Int} {later : List Int} {nine : Bool} {c : Int} {from_ : Int} {to_ : Int} {at_ : Int} {most : Int} {eleven : Bool} {σ σ' : Sg.Fr} {w w' : World} (h : g4St2 set_ next seven u years later nine c from_ to_ at_ most eleven σ w) (hs : ∀ i, 33 ≤ i → i ≤ 49 → σ' i = σ i) (hb : Below w.heap.size w w') : g4St2 set_ next seven u years later nine c from_ to_ at_ most eleven σ' w' := by
  obtain ⟨A33, c33, A34, c34, A38, c38, A40, c40, ⟨h33, h34, h35, h38, h39, h40, h41, h44, h45, h46, h47, h48, h49⟩, ⟨q33, p33⟩, ⟨q34, p34⟩, ⟨q38, p38⟩, ⟨q40, p40⟩⟩ := h
  exact ⟨A33, c33, A34, c34, A38, c38, A40, c40, ⟨(hs 33 (by decide) (by decide)).trans h33, (hs 34 (by decide) (by decide)).trans h34, (hs 35 (by decide) (by decide)).trans h35, (hs 38 (by decide) (by decide)).trans h38, (hs 39 (by decide) (by decide)).trans h39, (hs 40 (by decide) (by decide)).trans h40, (hs 41 (by decide) (by decide)).trans h41, (hs 44 (by decide) (by decide)).trans h44, (hs 45 (by decide) (by decide)).trans h45, (hs 46 (by decide) (by decide)).trans h46, (hs 47 (by decide) (by decide)).trans h47, (hs 48 (by decide) (by decide)).trans h48, (hs 49 (by decide) (by decide)).trans h49⟩, ⟨Kd.C_below q33 hb, p33⟩, ⟨Kd.C_below q34 hb, p34⟩, ⟨Kd.C_below q38 hb, p38⟩, ⟨Kd.C_below q40 hb, p40⟩⟩
theorem g4pA (k : Nat) (A0 : Option Addr) (c0 : Nat) (l0 : List Int) (children : Int) (sum : Int) (apart : Int) (sets : List (List Int)) (ok : Bool) (products : List Int) (one : Bool) (greatest : Int) (three : Bool) (count : Int) (σ τ : Sg.Fr) (w : World) {rest : Code} {Q : Exit → Act → World → Prop} (h0 : σ 0 = .slice A0 l0.length c0) (hC0 : Kd.C (Kd.int .u8) w A0 l0.length l0) (hc0 : l0.length ≤ c0)
    (hD : spec_DrawSetsApart.f l0 = some (children, sum, apart)) (hAI : impl_SetsApart.f children sum apart = some (sets, ok)) (hAS : spec_SetsApart.f children sum apart = some (sets, ok)) (hPI : impl_ProductsOfSum.f k children sum = some (products, one)) (hPS : spec_ProductsOfSum.f k children sum = some (products, one)) (hGI : impl_GreatestProduct.f k children sum = some (greatest, three)) (hGS : spec_GreatestProduct.f k children sum = some (greatest, three)) (hCI : impl_CountBySum.f children sum = some (count, one)) (hCS : spec_CountBySum.f children sum = some (count, one)) (hW1 : laws_qRows.f k sets sets = some true) (hW2 : laws_qSame.f k products products = some true) (hOO : ok = true → one = true) (hO3 : one = false → three = false) (hO4 : one = true → ((products.length : Int) > 0 ↔ three = true))
    (hK : ∀ σ' τ' w', g4St1 children sum apart sets ok products one greatest three count σ' w' → σ' 1 = σ 1 → Below w.heap.size w w' → rest.wp Tryz.prog Q (Sg.fr 556 (Sg.mix 61 σ' τ')) w') :
    (Code.seq (g4S 2) (Code.seq (g4S 3) (Code.seq (g4S 4) (Code.seq (g4S 5) (Code.seq (g4S 6) (Code.seq (g4S 7) (Code.seq (g4S 8) (Code.seq (g4S 9) (Code.seq (g4S 10) (Code.seq (g4S 11) rest)))))))))).wp Tryz.prog Q (Sg.fr 556 (Sg.mix 61 σ τ)) w := by
  refine Sg.sq ?_
  refine Sg.rg ?_
  refine Sg.mv (v := .slice A0 l0.length c0) (hs := Sg.rs rfl h0) (h := ?_)
  refine Sg.cl (args := #[.slice A0 l0.length c0]) (hf := Tryz.func5) (hargs := Sg.a1 (Sg.rs rfl rfl)) (h := ?_)
  refine (spec_DrawSetsApart.calls A0 c0 l0 children sum apart _ hC0 hc0 hD).mono ?_
  rintro _ w1 ⟨rfl, b2⟩
  refine ⟨_, _, rfl, (Sg.ps rfl), ?_⟩
  refine Sg.mv (v := .tuple #[.int .i64 children, .int .i64 sum, .int .i64 apart]) (h := ?_)
  refine Sg.ext (v := .int .i64 children) (h := ?_)
  refine Sg.ext (v := .int .i64 sum) (h := ?_)
  refine Sg.ext (v := .int .i64 apart) (h := ?_)
  refine Sg.asg (v := .int .i64 children) (h := ?_)
  refine Sg.asg (v := .int .i64 sum) (h := ?_)
  refine Sg.asg (v := .int .i64 apart) (h := ?_)
  first | refine Sg.nl ?_ | refine Sg.nl1 ?_
  refine Sg.gn fun τ1 => ?_
  refine Sg.sq ?_
  refine Sg.rg ?_
  refine Sg.mv (v := .int .i64 children) (h := ?_)
  refine Sg.mv (v := .int .i64 sum) (h := ?_)
  refine Sg.mv (v := .int .i64 apart) (h := ?_)
  refine Sg.cl (args := #[.int .i64 children, .int .i64 sum, .int .i64 apart]) (hf := Tryz.func6) (hargs := Sg.a3 (Sg.rs rfl rfl) (Sg.rs rfl rfl) (Sg.rs rfl rfl)) (h := ?_)
  refine (impl_SetsApart.calls children sum apart sets ok _ hAI).mono ?_
  rintro _ w3 ⟨v5, rfl, r6, b4⟩
  obtain ⟨A7, c8, rfl, f10, f9⟩ := Kd.S_reads r6
  refine ⟨_, _, rfl, (Sg.ps rfl), ?_⟩
  refine Sg.mv (v := .tuple #[.slice A7 sets.length c8, .bool ok]) (h := ?_)
  refine Sg.ext (v := .slice A7 sets.length c8) (h := ?_)
  refine Sg.ext (v := .bool ok) (h := ?_)
  refine Sg.asg (v := .slice A7 sets.length c8) (h := ?_)
  refine Sg.asg (v := .bool ok) (h := ?_)
  first | refine Sg.nl ?_ | refine Sg.nl1 ?_
  refine Sg.gn fun τ2 => ?_
  refine Sg.sq ?_
  refine Sg.rg ?_
  refine Sg.mv (v := .int .i64 children) (h := ?_)
  refine Sg.mv (v := .int .i64 sum) (h := ?_)
  refine Sg.mv (v := .int .i64 apart) (h := ?_)
  refine Sg.cl (args := #[.int .i64 children, .int .i64 sum, .int .i64 apart]) (hf := Tryz.func7) (hargs := Sg.a3 (Sg.rs rfl rfl) (Sg.rs rfl rfl) (Sg.rs rfl rfl)) (h := ?_)
  refine (spec_SetsApart.calls children sum apart sets ok _ hAS).mono ?_
  rintro _ w11 ⟨v13, rfl, r14, b12⟩
  obtain ⟨A15, c16, rfl, f18, f17⟩ := Kd.S_reads r14
  refine ⟨_, _, rfl, (Sg.ps rfl), ?_⟩
  refine Sg.mv (v := .tuple #[.slice A15 sets.length c16, .bool ok]) (h := ?_)
  refine Sg.ext (v := .slice A15 sets.length c16) (h := ?_)
  refine Sg.ext (v := .bool ok) (h := ?_)
  refine Sg.asg (v := .slice A15 sets.length c16) (h := ?_)
  refine Sg.asg (v := .bool ok) (h := ?_)
  first | refine Sg.nl ?_ | refine Sg.nl1 ?_
  refine Sg.gn fun τ3 => ?_
  refine Sg.sq ?_
  refine Sg.rg ?_
  refine Sg.mv (v := .int .i64 children) (h := ?_)
  refine Sg.mv (v := .int .i64 sum) (h := ?_)
  refine Sg.cl (args := #[.int .i64 children, .int .i64 sum]) (hf := Tryz.func8) (hargs := Sg.a2 (Sg.rs rfl rfl) (Sg.rs rfl rfl)) (h := ?_)
  refine (impl_ProductsOfSum.calls k children sum products one _ hPI).mono ?_
  rintro _ w19 ⟨v21, rfl, r22, b20⟩
  obtain ⟨A23, c24, rfl, f26, f25⟩ := Kd.R_reads r22
  refine ⟨_, _, rfl, (Sg.ps rfl), ?_⟩
  refine Sg.mv (v := .tuple #[.slice A23 products.length c24, .bool one]) (h := ?_)
  refine Sg.ext (v := .slice A23 products.length c24) (h := ?_)
  refine Sg.ext (v := .bool one) (h := ?_)
  refine Sg.asg (v := .slice A23 products.length c24) (h := ?_)
  refine Sg.asg (v := .bool one) (h := ?_)
  first | refine Sg.nl ?_ | refine Sg.nl1 ?_
  refine Sg.gn fun τ4 => ?_
  refine Sg.sq ?_
  refine Sg.rg ?_
  refine Sg.mv (v := .int .i64 children) (h := ?_)
  refine Sg.mv (v := .int .i64 sum) (h := ?_)
  refine Sg.cl (args := #[.int .i64 children, .int .i64 sum]) (hf := Tryz.func9) (hargs := Sg.a2 (Sg.rs rfl rfl) (Sg.rs rfl rfl)) (h := ?_)
  refine (spec_ProductsOfSum.calls k children sum products one _ hPS).mono ?_
  rintro _ w27 ⟨v29, rfl, r30, b28⟩
  obtain ⟨A31, c32, rfl, f34, f33⟩ := Kd.R_reads r30
  refine ⟨_, _, rfl, (Sg.ps rfl), ?_⟩
  refine Sg.mv (v := .tuple #[.slice A31 products.length c32, .bool one]) (h := ?_)
  refine Sg.ext (v := .slice A31 products.length c32) (h := ?_)
  refine Sg.ext (v := .bool one) (h := ?_)
  refine Sg.asg (v := .slice A31 products.length c32) (h := ?_)
  refine Sg.asg (v := .bool one) (h := ?_)
  first | refine Sg.nl ?_ | refine Sg.nl1 ?_
  refine Sg.gn fun τ5 => ?_
  refine Sg.sq ?_
  refine Sg.rg ?_
  refine Sg.mv (v := .int .i64 children) (h := ?_)
  refine Sg.mv (v := .int .i64 sum) (h := ?_)
  refine Sg.cl (args := #[.int .i64 children, .int .i64 sum]) (hf := Tryz.func10) (hargs := Sg.a2 (Sg.rs rfl rfl) (Sg.rs rfl rfl)) (h := ?_)
  refine (impl_GreatestProduct.calls k children sum greatest three _ hGI).mono ?_
  rintro _ w35 ⟨rfl, b36⟩
  refine ⟨_, _, rfl, (Sg.ps rfl), ?_⟩
  refine Sg.mv (v := .tuple #[.int .i64 greatest, .bool three]) (h := ?_)
  refine Sg.ext (v := .int .i64 greatest) (h := ?_)
  refine Sg.ext (v := .bool three) (h := ?_)
  refine Sg.asg (v := .int .i64 greatest) (h := ?_)
  refine Sg.asg (v := .bool three) (h := ?_)
  first | refine Sg.nl ?_ | refine Sg.nl1 ?_
  refine Sg.gn fun τ6 => ?_
  refine Sg.sq ?_
  refine Sg.rg ?_
  refine Sg.mv (v := .int .i64 children) (h := ?_)
  refine Sg.mv (v := .int .i64 sum) (h := ?_)
  refine Sg.cl (args := #[.int .i64 children, .int .i64 sum]) (hf := Tryz.func11) (hargs := Sg.a2 (Sg.rs rfl rfl) (Sg.rs rfl rfl)) (h := ?_)
  refine (spec_GreatestProduct.calls k children sum greatest three _ hGS).mono ?_
  rintro _ w37 ⟨rfl, b38⟩
  refine ⟨_, _, rfl, (Sg.ps rfl), ?_⟩
  refine Sg.mv (v := .tuple #[.int .i64 greatest, .bool three]) (h := ?_)
  refine Sg.ext (v := .int .i64 greatest) (h := ?_)
  refine Sg.ext (v := .bool three) (h := ?_)
  refine Sg.asg (v := .int .i64 greatest) (h := ?_)
  refine Sg.asg (v := .bool three) (h := ?_)
  first | refine Sg.nl ?_ | refine Sg.nl1 ?_
  refine Sg.gn fun τ7 => ?_
  refine Sg.sq ?_
  refine Sg.rg ?_
  refine Sg.mv (v := .int .i64 children) (h := ?_)
  refine Sg.mv (v := .int .i64 sum) (h := ?_)
  refine Sg.cl (args := #[.int .i64 children, .int .i64 sum]) (hf := Tryz.func12) (hargs := Sg.a2 (Sg.rs rfl rfl) (Sg.rs rfl rfl)) (h := ?_)
  refine (impl_CountBySum.calls children sum count one _ hCI).mono ?_
  rintro _ w39 ⟨rfl, b40⟩
  refine ⟨_, _, rfl, (Sg.ps rfl), ?_⟩
  refine Sg.mv (v := .tuple #[.int .i64 count, .bool one]) (h := ?_)
  refine Sg.ext (v := .int .i64 count) (h := ?_)
  refine Sg.ext (v := .bool one) (h := ?_)
  refine Sg.asg (v := .int .i64 count) (h := ?_)
  refine Sg.asg (v := .bool one) (h := ?_)
  first | refine Sg.nl ?_ | refine Sg.nl1 ?_
  refine Sg.gn fun τ8 => ?_
  refine Sg.sq ?_
  refine Sg.rg ?_
  refine Sg.mv (v := .int .i64 children) (h := ?_)
  refine Sg.mv (v := .int .i64 sum) (h := ?_)
  refine Sg.cl (args := #[.int .i64 children, .int .i64 sum]) (hf := Tryz.func13) (hargs := Sg.a2 (Sg.rs rfl rfl) (Sg.rs rfl rfl)) (h := ?_)
  refine (spec_CountBySum.calls children sum count one _ hCS).mono ?_
  rintro _ w41 ⟨rfl, b42⟩
  refine ⟨_, _, rfl, (Sg.ps rfl), ?_⟩
  refine Sg.mv (v := .tuple #[.int .i64 count, .bool one]) (h := ?_)
  refine Sg.ext (v := .int .i64 count) (h := ?_)
  refine Sg.ext (v := .bool one) (h := ?_)
  refine Sg.asg (v := .int .i64 count) (h := ?_)
  refine Sg.asg (v := .bool one) (h := ?_)
  first | refine Sg.nl ?_ | refine Sg.nl1 ?_
  refine Sg.gn fun τ9 => ?_
  refine Sg.sq ?_
  refine Sg.sq ?_
  refine Sg.rg ?_
  refine Sg.mv (v := .bool ok) (h := ?_)
  refine Sg.mv (v := .bool ok) (h := ?_)
  refine Sg.bneq (c := false) (hu := Tryz.underlying4) (h := ?_)
  refine Sg.mv (v := .bool false) (h := ?_)
  refine Sg.mv (v := .slice A7 sets.length c8) (hw := Sg.wy (d := 123) rfl rfl rfl) (h := ?_)
  refine Sg.mv (v := .slice A15 sets.length c16) (hw := Sg.wy (d := 123) rfl rfl rfl) (h := ?_)
  refine Sg.cl (args := #[.slice A7 sets.length c8, .slice A15 sets.length c16]) (hf := Tryz.func14) (hw := Sg.wy (d := 123) rfl rfl rfl) (hargs := Sg.a2 (Sg.rs rfl rfl) (Sg.rs rfl rfl)) (h := ?_)
  have f43 := Kd.C_below f9 (below_step (below_step (below_step (below_step (below_step (below_step b12 b20) b28) b36) b38) b40) b42)
  have f44 := Kd.C_below f17 (below_step (below_step (below_step (below_step (below_step b20 b28) b36) b38) b40) b42)
  refine (laws_qRows.calls k A7 c8 sets A15 c16 sets true _ f43 f10 f44 f18 hW1).mono ?_
  rintro _ w45 ⟨rfl, d47⟩
  have b46 := d47.below
  refine ⟨_, _, rfl, (Sg.ps rfl), ?_⟩
  refine Sg.nt (b := true) (hw := Sg.wy (d := 123) rfl rfl rfl) (h := ?_)
  refine Sg.pk (v := .bool false) (h := ?_)
  refine Sg.mv (v := .bool false) (h := ?_)
  refine Sg.mv (v := .bool one) (hw := Sg.wy (d := 129) rfl rfl rfl) (h := ?_)
  refine Sg.mv (v := .bool one) (hw := Sg.wy (d := 129) rfl rfl rfl) (h := ?_)
  refine Sg.bneq (c := false) (hu := Tryz.underlying4) (hw := Sg.wy (d := 129) rfl rfl rfl) (h := ?_)
  refine Sg.pk (v := .bool false) (h := ?_)
  refine Sg.mv (v := .bool false) (h := ?_)
  refine Sg.mv (v := .slice A23 products.length c24) (hw := Sg.wy (d := 134) rfl rfl rfl) (h := ?_)
  refine Sg.mv (v := .slice A31 products.length c32) (hw := Sg.wy (d := 134) rfl rfl rfl) (h := ?_)
  refine Sg.cl (args := #[.slice A23 products.length c24, .slice A31 products.length c32]) (hf := Tryz.func15) (hw := Sg.wy (d := 134) rfl rfl rfl) (hargs := Sg.a2 (Sg.rs rfl rfl) (Sg.rs rfl rfl)) (h := ?_)
  have f48 := Kd.C_below f25 (below_step (below_step (below_step (below_step (below_step b28 b36) b38) b40) b42) b46)
  have f49 := Kd.C_below f33 (below_step (below_step (below_step (below_step b36 b38) b40) b42) b46)
  refine (laws_qSame.calls k A23 c24 products A31 c32 products true _ f48 f26 f49 f34 hW2).mono ?_
  rintro _ w50 ⟨rfl, d52⟩
  have b51 := d52.below
  refine ⟨_, _, rfl, (Sg.ps rfl), ?_⟩
  refine Sg.nt (b := true) (hw := Sg.wy (d := 134) rfl rfl rfl) (h := ?_)
  refine Sg.pk (v := .bool false) (h := ?_)
  refine Sg.mv (v := .bool false) (h := ?_)
  refine Sg.mv (v := .bool three) (hw := Sg.wy (d := 140) rfl rfl rfl) (h := ?_)
  refine Sg.mv (v := .bool three) (hw := Sg.wy (d := 140) rfl rfl rfl) (h := ?_)
  refine Sg.bneq (c := false) (hu := Tryz.underlying4) (hw := Sg.wy (d := 140) rfl rfl rfl) (h := ?_)
  refine Sg.pk (v := .bool false) (h := ?_)
  refine Sg.mv (v := .bool false) (h := ?_)
  refine Sg.mv (v := .int .i64 greatest) (hw := Sg.wy (d := 145) rfl rfl rfl) (h := ?_)
  refine Sg.mv (v := .int .i64 greatest) (hw := Sg.wy (d := 145) rfl rfl rfl) (h := ?_)
  refine Sg.ineq (c := false) (hw := Sg.wy (d := 145) rfl rfl rfl) (h := ?_)
  refine Sg.pk (v := .bool false) (h := ?_)
  refine Sg.mv (v := .bool false) (h := ?_)
  refine Sg.mv (v := .bool one) (hw := Sg.wy (d := 150) rfl rfl rfl) (h := ?_)
  refine Sg.mv (v := .bool one) (hw := Sg.wy (d := 150) rfl rfl rfl) (h := ?_)
  refine Sg.bneq (c := false) (hu := Tryz.underlying4) (hw := Sg.wy (d := 150) rfl rfl rfl) (h := ?_)
  refine Sg.pk (v := .bool false) (h := ?_)
  refine Sg.mv (v := .bool false) (h := ?_)
  refine Sg.mv (v := .int .i64 count) (hw := Sg.wy (d := 155) rfl rfl rfl) (h := ?_)
  refine Sg.mv (v := .int .i64 count) (hw := Sg.wy (d := 155) rfl rfl rfl) (h := ?_)
  refine Sg.ineq (c := false) (hw := Sg.wy (d := 155) rfl rfl rfl) (h := ?_)
  refine Sg.pk (v := .bool false) (h := ?_)
  refine Sg.mv (v := .bool false) (h := ?_)
  refine Sg.mv (v := .bool ok) (hw := Sg.wy (d := 160) rfl rfl rfl) (h := ?_)
  refine Sg.mv (v := .bool ok) (hw := Sg.wy (d := 160) rfl rfl rfl) (h := ?_)
  cases ok
  ·skip
   refine Sg.off (hw := Sg.yl (d := 162) rfl rfl rfl) (hb := rfl) (h := ?_)
   refine Sg.off (hw := Sg.yl (d := 162) rfl rfl rfl) (hb := rfl) (h := ?_)
   refine Sg.pk (v := .bool false) (hw := Sg.wy (d := 160) rfl rfl rfl) (h := ?_)
   refine Sg.pk (v := .bool false) (h := ?_)
   refine Sg.mv (v := .bool false) (h := ?_)
   refine Sg.mv (v := .bool one) (hw := Sg.wy (d := 167) rfl rfl rfl) (h := ?_)
   refine Sg.mv (v := .bool one) (hw := Sg.wy (d := 167) rfl rfl rfl) (h := ?_)
   refine Sg.bneq (c := false) (hu := Tryz.underlying4) (hw := Sg.wy (d := 167) rfl rfl rfl) (h := ?_)
   refine Sg.pk (v := .bool false) (h := ?_)
   refine Sg.mv (v := .bool false) (h := ?_)
   refine Sg.mv (v := .bool three) (hw := Sg.wy (d := 172) rfl rfl rfl) (h := ?_)
   refine Sg.mv (v := .bool one) (hw := Sg.wy (d := 172) rfl rfl rfl) (h := ?_)
   refine Sg.mv (v := .bool one) (hw := Sg.wy (d := 172) rfl rfl rfl) (h := ?_)
   cases one
   ·skip
    obtain rfl : three = false := hO3 rfl
    refine Sg.off (hw := Sg.yl (d := 175) rfl rfl rfl) (hb := rfl) (h := ?_)
    refine Sg.off (hw := Sg.yl (d := 175) rfl rfl rfl) (hb := rfl) (h := ?_)
    refine Sg.off (hw := Sg.yl (d := 175) rfl rfl rfl) (hb := rfl) (h := ?_)
    refine Sg.pk (v := .bool false) (hw := Sg.wy (d := 172) rfl rfl rfl) (h := ?_)
    refine Sg.bneq (c := false) (hu := Tryz.underlying4) (hw := Sg.wy (d := 172) rfl rfl rfl) (h := ?_)
    refine Sg.pk (v := .bool false) (h := ?_)
    first | refine Sg.nl ?_ | refine Sg.nl1 ?_
    refine Sg.cf rfl rfl ?_
    first | refine Sg.sk ?_ | refine Sg.sk1 ?_
    refine Sg.gn fun τ10 => ?_
    have f53 := Kd.C_below f43 (below_step b46 b51)
    have f54 := Kd.C_below f48 b51
    exact hK _ _ _ ⟨A7, c8, A23, c24, ⟨rfl, rfl, rfl, rfl, rfl, rfl, rfl, rfl, rfl, rfl⟩, ⟨f53, f10⟩, ⟨f54, f26⟩⟩ ((Sg.un (by omega)).trans ((Sg.un (by omega)).trans ((Sg.un (by omega)).trans ((Sg.un (by omega)).trans ((Sg.un (by omega)).trans ((Sg.un (by omega)).trans ((Sg.un (by omega)).trans ((Sg.un (by omega)).trans ((Sg.un (by omega)).trans ((Sg.un (by omega)).trans ((Sg.un (by omega)).trans ((Sg.un (by omega)).trans ((Sg.un (by omega)).trans ((Sg.un (by omega)).trans ((Sg.un (by omega)).trans ((Sg.un (by omega)).trans ((Sg.un (by omega)).trans ((Sg.un (by omega)).trans ((Sg.un (by omega))))))))))))))))))))) (below_step (below_step (below_step (below_step (below_step (below_step (below_step (below_step (below_step (below_step b2 b4) b12) b20) b28) b36) b38) b40) b42) b46) b51)
   ·skip
    refine Sg.mv (v := .slice A23 products.length c24) (hw := Sg.wy (d := 175) rfl rfl rfl) (h := ?_)
    refine Sg.len (hu := by first | exact Tryz.underlying22 | exact Tryz.underlying26 | exact Tryz.underlying29) (hw := Sg.wy (d := 175) rfl rfl rfl) (h := ?_)
    refine Sg.igtr (c := three) (hw := Sg.wy (d := 175) rfl rfl rfl) (hc := hO4 rfl) (h := ?_)
    refine Sg.pk (v := .bool three) (hw := Sg.wy (d := 172) rfl rfl rfl) (h := ?_)
    refine Sg.bneq (c := false) (hu := Tryz.underlying4) (hw := Sg.wy (d := 172) rfl rfl rfl) (h := ?_)
    refine Sg.pk (v := .bool false) (h := ?_)
    first | refine Sg.nl ?_ | refine Sg.nl1 ?_
    refine Sg.cf rfl rfl ?_
    first | refine Sg.sk ?_ | refine Sg.sk1 ?_
    refine Sg.gn fun τ10 => ?_
    have f55 := Kd.C_below f43 (below_step b46 b51)
    have f56 := Kd.C_below f48 b51
    exact hK _ _ _ ⟨A7, c8, A23, c24, ⟨rfl, rfl, rfl, rfl, rfl, rfl, rfl, rfl, rfl, rfl⟩, ⟨f55, f10⟩, ⟨f56, f26⟩⟩ ((Sg.un (by omega)).trans ((Sg.un (by omega)).trans ((Sg.un (by omega)).trans ((Sg.un (by omega)).trans ((Sg.un (by omega)).trans ((Sg.un (by omega)).trans ((Sg.un (by omega)).trans ((Sg.un (by omega)).trans ((Sg.un (by omega)).trans ((Sg.un (by omega)).trans ((Sg.un (by omega)).trans ((Sg.un (by omega)).trans ((Sg.un (by omega)).trans ((Sg.un (by omega)).trans ((Sg.un (by omega)).trans ((Sg.un (by omega)).trans ((Sg.un (by omega)).trans ((Sg.un (by omega)).trans ((Sg.un (by omega))))))))))))))))))))) (below_step (below_step (below_step (below_step (below_step (below_step (below_step (below_step (below_step (below_step b2 b4) b12) b20) b28) b36) b38) b40) b42) b46) b51)
  ·skip
   obtain rfl : one = true := hOO rfl
   refine Sg.mv (v := .bool true) (hw := Sg.wy (d := 162) rfl rfl rfl) (h := ?_)
   refine Sg.nt (b := true) (hw := Sg.wy (d := 162) rfl rfl rfl) (h := ?_)
   refine Sg.pk (v := .bool false) (hw := Sg.wy (d := 160) rfl rfl rfl) (h := ?_)
   refine Sg.pk (v := .bool false) (h := ?_)
   refine Sg.mv (v := .bool false) (h := ?_)
   refine Sg.mv (v := .bool true) (hw := Sg.wy (d := 167) rfl rfl rfl) (h := ?_)
   refine Sg.mv (v := .bool true) (hw := Sg.wy (d := 167) rfl rfl rfl) (h := ?_)
   refine Sg.bneq (c := false) (hu := Tryz.underlying4) (hw := Sg.wy (d := 167) rfl rfl rfl) (h := ?_)
   refine Sg.pk (v := .bool false) (h := ?_)
   refine Sg.mv (v := .bool false) (h := ?_)
   refine Sg.mv (v := .bool three) (hw := Sg.wy (d := 172) rfl rfl rfl) (h := ?_)
   refine Sg.mv (v := .bool true) (hw := Sg.wy (d := 172) rfl rfl rfl) (h := ?_)
   refine Sg.mv (v := .bool true) (hw := Sg.wy (d := 172) rfl rfl rfl) (h := ?_)
   refine Sg.mv (v := .slice A23 products.length c24) (hw := Sg.wy (d := 175) rfl rfl rfl) (h := ?_)
   refine Sg.len (hu := by first | exact Tryz.underlying22 | exact Tryz.underlying26 | exact Tryz.underlying29) (hw := Sg.wy (d := 175) rfl rfl rfl) (h := ?_)
   refine Sg.igtr (c := three) (hw := Sg.wy (d := 175) rfl rfl rfl) (hc := hO4 rfl) (h := ?_)
   refine Sg.pk (v := .bool three) (hw := Sg.wy (d := 172) rfl rfl rfl) (h := ?_)
   refine Sg.bneq (c := false) (hu := Tryz.underlying4) (hw := Sg.wy (d := 172) rfl rfl rfl) (h := ?_)
   refine Sg.pk (v := .bool false) (h := ?_)
   first | refine Sg.nl ?_ | refine Sg.nl1 ?_
   refine Sg.cf rfl rfl ?_
   first | refine Sg.sk ?_ | refine Sg.sk1 ?_
   refine Sg.gn fun τ10 => ?_
   have f57 := Kd.C_below f43 (below_step b46 b51)
   have f58 := Kd.C_below f48 b51
   exact hK _ _ _ ⟨A7, c8, A23, c24, ⟨rfl, rfl, rfl, rfl, rfl, rfl, rfl, rfl, rfl, rfl⟩, ⟨f57, f10⟩, ⟨f58, f26⟩⟩ ((Sg.un (by omega)).trans ((Sg.un (by omega)).trans ((Sg.un (by omega)).trans ((Sg.un (by omega)).trans ((Sg.un (by omega)).trans ((Sg.un (by omega)).trans ((Sg.un (by omega)).trans ((Sg.un (by omega)).trans ((Sg.un (by omega)).trans ((Sg.un (by omega)).trans ((Sg.un (by omega)).trans ((Sg.un (by omega)).trans ((Sg.un (by omega)).trans ((Sg.un (by omega)).trans ((Sg.un (by omega)).trans ((Sg.un (by omega)).trans ((Sg.un (by omega)).trans ((Sg.un (by omega)).trans ((Sg.un (by omega))))))))))))))))))))) (below_step (below_step (below_step (below_step (below_step (below_step (below_step (below_step (below_step (below_step b2 b4) b12) b20) b28) b36) b38) b40) b42) b46) b51)
theorem g4pD (k : Nat) (children : Int) (sum : Int) (apart : Int) (sets : List (List Int)) (ok : Bool) (products : List Int) (one : Bool) (greatest : Int) (three : Bool) (count : Int) (σ τ : Sg.Fr) (w : World) {rest : Code} {Q : Exit → Act → World → Prop} (hQp : ∀ c (a : Act) d v w, Q (.panic c) (a.put d v) w → Q (.panic c) a w) (hSt : g4St1 children sum apart sets ok products one greatest three count σ w)
    (hO4 : one = true → ((products.length : Int) > 0 ↔ three = true))
    (hD_ : one = true → laws_qRises.f k products = some true ∧ (products.length : Int) ≤ count ∧ (1 ≤ children ∧ children ≤ 4) ∧ ((products.length : Int) = 0 ↔ count = 0) ∧ (0 < count ↔ (children ≤ sum ∧ sum ≤ children * 20)) ∧ (three = true → products.length ≤ 1000000 ∧ rd products ((products.length - 1 : Nat) : Int) = greatest))
    (hK : ∀ σ' τ' w', (∀ j, j < 24 → σ' j = σ j) → Below w.heap.size w w' → rest.wp Tryz.prog Q (Sg.fr 556 (Sg.mix 61 σ' τ')) w') :
    (Code.seq (g4S 12) rest).wp Tryz.prog Q (Sg.fr 556 (Sg.mix 61 σ τ)) w := by
  obtain ⟨A8, c8, A12, c12, ⟨h5, h6, h7, h8, h9, h12, h13, h16, h17, h20⟩, ⟨q8, p8⟩, ⟨q12, p12⟩⟩ := hSt
  refine Sg.sq ?_
  refine Sg.sq ?_
  refine Sg.rg ?_
  refine Sg.mv (v := .bool one) (hs := Sg.rs rfl h13) (h := ?_)
  first | refine Sg.nl ?_ | refine Sg.nl1 ?_
  cases one
  ·skip
   refine Sg.cf rfl rfl ?_
   first | refine Sg.sk ?_ | refine Sg.sk1 ?_
   exact hK _ _ _ (fun j hj => rfl) (Below.refl _ _)
  ·skip
   obtain ⟨e1, e2, ⟨e3, e4⟩, e5, e6, e7⟩ := hD_ rfl
   refine Sg.ct rfl rfl ?_
   refine Sg.sq ?_
   by_cases hsc : sum ≥ children
   ·skip
    refine Sg.rg ?_
    refine Sg.mv (v := .slice A12 products.length c12) (hs := Sg.rs rfl h12) (h := ?_)
    refine Sg.cl (args := #[.slice A12 products.length c12]) (hf := Tryz.func16) (hargs := Sg.a1 (Sg.rs rfl rfl)) (h := ?_)
    refine (laws_qRises.calls k A12 c12 products true _ q12 p12 e1).mono ?_
    rintro _ w1 ⟨rfl, d3⟩
    have b2 := d3.below
    refine ⟨_, _, rfl, (Sg.ps rfl), ?_⟩
    refine Sg.nt (b := true) (h := ?_)
    refine Sg.mv (v := .bool false) (h := ?_)
    refine Sg.mv (v := .slice A12 products.length c12) (hw := Sg.wy (d := 186) rfl rfl rfl) (hs := Sg.rs rfl h12) (h := ?_)
    refine Sg.len (hu := by first | exact Tryz.underlying22 | exact Tryz.underlying26 | exact Tryz.underlying29) (hw := Sg.wy (d := 186) rfl rfl rfl) (h := ?_)
    refine Sg.mv (v := .int .i64 count) (hw := Sg.wy (d := 186) rfl rfl rfl) (hs := Sg.rs rfl h20) (h := ?_)
    refine Sg.igtr (c := false) (hw := Sg.wy (d := 186) rfl rfl rfl) (hc := iff_of_false (by omega) Bool.false_ne_true) (h := ?_)
    refine Sg.pk (v := .bool false) (h := ?_)
    refine Sg.mv (v := .bool false) (h := ?_)
    refine Sg.mv (v := .int .i64 count) (hw := Sg.wy (d := 192) rfl rfl rfl) (hs := Sg.rs rfl h20) (h := ?_)
    refine Sg.ieql (c := (decide (count = 0))) (hw := Sg.wy (d := 192) rfl rfl rfl) (h := ?_)
    refine Sg.mv (v := .slice A12 products.length c12) (hw := Sg.wy (d := 192) rfl rfl rfl) (hs := Sg.rs rfl h12) (h := ?_)
    refine Sg.len (hu := by first | exact Tryz.underlying22 | exact Tryz.underlying26 | exact Tryz.underlying29) (hw := Sg.wy (d := 192) rfl rfl rfl) (h := ?_)
    refine Sg.ieql (c := (decide (count = 0))) (hw := Sg.wy (d := 192) rfl rfl rfl) (hc := by rw [decide_eq_true_iff]; exact e5) (h := ?_)
    refine Sg.bneq (c := false) (hu := Tryz.underlying4) (hw := Sg.wy (d := 192) rfl rfl rfl) (h := ?_)
    refine Sg.pk (v := .bool false) (h := ?_)
    refine Sg.mv (v := .bool false) (h := ?_)
    refine Sg.mv (v := .int .i64 count) (hw := Sg.wy (d := 200) rfl rfl rfl) (hs := Sg.rs rfl h20) (h := ?_)
    refine Sg.igtr (c := (decide (0 < count))) (hw := Sg.wy (d := 200) rfl rfl rfl) (h := ?_)
    refine Sg.mv (v := .int .i64 sum) (hw := Sg.wy (d := 200) rfl rfl rfl) (hs := Sg.rs rfl h6) (h := ?_)
    refine Sg.mv (v := .int .i64 children) (hw := Sg.wy (d := 200) rfl rfl rfl) (hs := Sg.rs rfl h5) (h := ?_)
    refine Sg.igeq (c := true) (hw := Sg.wy (d := 200) rfl rfl rfl) (hc := iff_of_true hsc rfl) (h := ?_)
    refine Sg.mv (v := .bool true) (hw := Sg.wy (d := 200) rfl rfl rfl) (h := ?_)
    refine Sg.mv (v := .int .i64 sum) (hw := Sg.wy (d := 206) rfl rfl rfl) (hs := Sg.rs rfl h6) (h := ?_)
    refine Sg.mv (v := .int .i64 children) (hw := Sg.wy (d := 206) rfl rfl rfl) (hs := Sg.rs rfl h5) (h := ?_)
    refine Sg.imul (c := (children * 20)) (hw := Sg.wy (d := 206) rfl rfl rfl) (hc := by unfold wrap64; omega) (h := ?_)
    refine Sg.ileq (c := (decide (0 < count))) (hw := Sg.wy (d := 206) rfl rfl rfl) (hc := by rw [decide_eq_true_iff, e6]; exact ⟨fun h => ⟨hsc, h⟩, fun h => h.2⟩) (h := ?_)
    refine Sg.pk (v := .bool (decide (0 < count))) (hw := Sg.wy (d := 200) rfl rfl rfl) (h := ?_)
    refine Sg.bneq (c := false) (hu := Tryz.underlying4) (hw := Sg.wy (d := 200) rfl rfl rfl) (h := ?_)
    refine Sg.pk (v := .bool false) (h := ?_)
    refine Sg.mv (v := .bool false) (h := ?_)
    refine Sg.mv (v := .bool three) (hw := Sg.wy (d := 214) rfl rfl rfl) (hs := Sg.rs rfl h17) (h := ?_)
    refine Sg.mv (v := .bool three) (hw := Sg.wy (d := 214) rfl rfl rfl) (h := ?_)
    cases three
    ·skip
     refine Sg.off (hw := Sg.yl (d := 216) rfl rfl rfl) (hb := rfl) (h := ?_)
     refine Sg.off (hw := Sg.yl (d := 216) rfl rfl rfl) (hb := rfl) (h := ?_)
     refine Sg.off (hw := Sg.yl (d := 216) rfl rfl rfl) (hb := rfl) (h := ?_)
     refine Sg.off (hw := Sg.yl (d := 216) rfl rfl rfl) (hb := rfl) (h := ?_)
     refine Sg.off (hw := Sg.yl (d := 216) rfl rfl rfl) (hb := rfl) (h := ?_)
     refine Sg.off (hw := Sg.yl (d := 216) rfl rfl rfl) (hb := rfl) (h := ?_)
     refine Sg.off (hw := Sg.yl (d := 216) rfl rfl rfl) (hb := rfl) (h := ?_)
     refine Sg.off (hw := Sg.yl (d := 216) rfl rfl rfl) (hb := rfl) (h := ?_)
     refine Sg.pk (v := .bool false) (hw := Sg.wy (d := 214) rfl rfl rfl) (h := ?_)
     refine Sg.pk (v := .bool false) (h := ?_)
     first | refine Sg.nl ?_ | refine Sg.nl1 ?_
     refine Sg.cf rfl rfl ?_
     first | refine Sg.sk ?_ | refine Sg.sk1 ?_
     exact hK _ _ _ (fun j hj => rfl) b2
    ·skip
     obtain ⟨e8, e9⟩ := e7 rfl
     have h3 : 0 < products.length := by have := (hO4 rfl).2 rfl; omega
     have f4 := Kd.C_below q12 b2
     obtain ⟨ad5, hA6, hc7⟩ := Kd.at_int f4 ((products.length - 1 : Nat) : Int) (Int.natCast_nonneg _) (by omega)
     rw [e9] at hc7
     refine Sg.mv (v := .slice A12 products.length c12) (hw := Sg.wy (d := 216) rfl rfl rfl) (hs := Sg.rs rfl h12) (h := ?_)
     refine Sg.mv (v := .slice A12 products.length c12) (hw := Sg.wy (d := 216) rfl rfl rfl) (hs := Sg.rs rfl h12) (h := ?_)
     refine Sg.len (hu := by first | exact Tryz.underlying22 | exact Tryz.underlying26 | exact Tryz.underlying29) (hw := Sg.wy (d := 216) rfl rfl rfl) (h := ?_)
     refine Sg.isub (c := ((products.length - 1 : Nat) : Int)) (hw := Sg.wy (d := 216) rfl rfl rfl) (hc := by unfold wrap64; omega) (h := ?_)
     refine Sg.yy (hy := Sg.Xixa (sz := 1) (i := ((products.length - 1 : Nat) : Int)) (hu := Tryz.underlying29) (hsz := by kernel_rfl) (h0 := Int.natCast_nonneg _) (h1 := by omega) (had := by rw [Nat.mul_one]) (ho := rfl) (hx := Sg.rs rfl (congrArg (fun a_ => Value.slice a_ products.length c12) hA6))) (hw := Sg.wy (d := 216) rfl rfl rfl) (h := ?_)
     refine Sg.yy (hy := Sg.Xldi (hu := Tryz.underlying3) (hc := hc7)) (hw := Sg.wy (d := 216) rfl rfl rfl) (h := ?_)
     refine Sg.mv (v := .int .i64 greatest) (hw := Sg.wy (d := 216) rfl rfl rfl) (hs := Sg.rs rfl h16) (h := ?_)
     refine Sg.ineq (c := false) (hw := Sg.wy (d := 216) rfl rfl rfl) (h := ?_)
     refine Sg.pk (v := .bool false) (hw := Sg.wy (d := 214) rfl rfl rfl) (h := ?_)
     refine Sg.pk (v := .bool false) (h := ?_)
     first | refine Sg.nl ?_ | refine Sg.nl1 ?_
     refine Sg.cf rfl rfl ?_
     first | refine Sg.sk ?_ | refine Sg.sk1 ?_
     exact hK _ _ _ (fun j hj => rfl) b2
   ·skip
    refine Sg.rg ?_
    refine Sg.mv (v := .slice A12 products.length c12) (hs := Sg.rs rfl h12) (h := ?_)
    refine Sg.cl (args := #[.slice A12 products.length c12]) (hf := Tryz.func16) (hargs := Sg.a1 (Sg.rs rfl rfl)) (h := ?_)
    refine (laws_qRises.calls k A12 c12 products true _ q12 p12 e1).mono ?_
    rintro _ w8 ⟨rfl, d10⟩
    have b9 := d10.below
    refine ⟨_, _, rfl, (Sg.ps rfl), ?_⟩
    refine Sg.nt (b := true) (h := ?_)
    refine Sg.mv (v := .bool false) (h := ?_)
    refine Sg.mv (v := .slice A12 products.length c12) (hw := Sg.wy (d := 186) rfl rfl rfl) (hs := Sg.rs rfl h12) (h := ?_)
    refine Sg.len (hu := by first | exact Tryz.underlying22 | exact Tryz.underlying26 | exact Tryz.underlying29) (hw := Sg.wy (d := 186) rfl rfl rfl) (h := ?_)
    refine Sg.mv (v := .int .i64 count) (hw := Sg.wy (d := 186) rfl rfl rfl) (hs := Sg.rs rfl h20) (h := ?_)
    refine Sg.igtr (c := false) (hw := Sg.wy (d := 186) rfl rfl rfl) (hc := iff_of_false (by omega) Bool.false_ne_true) (h := ?_)
    refine Sg.pk (v := .bool false) (h := ?_)
    refine Sg.mv (v := .bool false) (h := ?_)
    refine Sg.mv (v := .int .i64 count) (hw := Sg.wy (d := 192) rfl rfl rfl) (hs := Sg.rs rfl h20) (h := ?_)
    refine Sg.ieql (c := (decide (count = 0))) (hw := Sg.wy (d := 192) rfl rfl rfl) (h := ?_)
    refine Sg.mv (v := .slice A12 products.length c12) (hw := Sg.wy (d := 192) rfl rfl rfl) (hs := Sg.rs rfl h12) (h := ?_)
    refine Sg.len (hu := by first | exact Tryz.underlying22 | exact Tryz.underlying26 | exact Tryz.underlying29) (hw := Sg.wy (d := 192) rfl rfl rfl) (h := ?_)
    refine Sg.ieql (c := (decide (count = 0))) (hw := Sg.wy (d := 192) rfl rfl rfl) (hc := by rw [decide_eq_true_iff]; exact e5) (h := ?_)
    refine Sg.bneq (c := false) (hu := Tryz.underlying4) (hw := Sg.wy (d := 192) rfl rfl rfl) (h := ?_)
    refine Sg.pk (v := .bool false) (h := ?_)
    refine Sg.mv (v := .bool false) (h := ?_)
    refine Sg.mv (v := .int .i64 count) (hw := Sg.wy (d := 200) rfl rfl rfl) (hs := Sg.rs rfl h20) (h := ?_)
    refine Sg.igtr (c := false) (hw := Sg.wy (d := 200) rfl rfl rfl) (hc := iff_of_false (fun h => hsc (e6.1 h).1) Bool.false_ne_true) (h := ?_)
    refine Sg.mv (v := .int .i64 sum) (hw := Sg.wy (d := 200) rfl rfl rfl) (hs := Sg.rs rfl h6) (h := ?_)
    refine Sg.mv (v := .int .i64 children) (hw := Sg.wy (d := 200) rfl rfl rfl) (hs := Sg.rs rfl h5) (h := ?_)
    refine Sg.igeq (c := false) (hw := Sg.wy (d := 200) rfl rfl rfl) (hc := iff_of_false hsc Bool.false_ne_true) (h := ?_)
    refine Sg.mv (v := .bool false) (hw := Sg.wy (d := 200) rfl rfl rfl) (h := ?_)
    refine Sg.off (hw := Sg.yl (d := 206) rfl rfl rfl) (hb := rfl) (h := ?_)
    refine Sg.off (hw := Sg.yl (d := 206) rfl rfl rfl) (hb := rfl) (h := ?_)
    refine Sg.off (hw := Sg.yl (d := 206) rfl rfl rfl) (hb := rfl) (h := ?_)
    refine Sg.off (hw := Sg.yl (d := 206) rfl rfl rfl) (hb := rfl) (h := ?_)
    refine Sg.pk (v := .bool false) (hw := Sg.wy (d := 200) rfl rfl rfl) (h := ?_)
    refine Sg.bneq (c := false) (hu := Tryz.underlying4) (hw := Sg.wy (d := 200) rfl rfl rfl) (h := ?_)
    refine Sg.pk (v := .bool false) (h := ?_)
    refine Sg.mv (v := .bool false) (h := ?_)
    refine Sg.mv (v := .bool three) (hw := Sg.wy (d := 214) rfl rfl rfl) (hs := Sg.rs rfl h17) (h := ?_)
    refine Sg.mv (v := .bool three) (hw := Sg.wy (d := 214) rfl rfl rfl) (h := ?_)
    cases three
    ·skip
     refine Sg.off (hw := Sg.yl (d := 216) rfl rfl rfl) (hb := rfl) (h := ?_)
     refine Sg.off (hw := Sg.yl (d := 216) rfl rfl rfl) (hb := rfl) (h := ?_)
     refine Sg.off (hw := Sg.yl (d := 216) rfl rfl rfl) (hb := rfl) (h := ?_)
     refine Sg.off (hw := Sg.yl (d := 216) rfl rfl rfl) (hb := rfl) (h := ?_)
     refine Sg.off (hw := Sg.yl (d := 216) rfl rfl rfl) (hb := rfl) (h := ?_)
     refine Sg.off (hw := Sg.yl (d := 216) rfl rfl rfl) (hb := rfl) (h := ?_)
     refine Sg.off (hw := Sg.yl (d := 216) rfl rfl rfl) (hb := rfl) (h := ?_)
     refine Sg.off (hw := Sg.yl (d := 216) rfl rfl rfl) (hb := rfl) (h := ?_)
     refine Sg.pk (v := .bool false) (hw := Sg.wy (d := 214) rfl rfl rfl) (h := ?_)
     refine Sg.pk (v := .bool false) (h := ?_)
     first | refine Sg.nl ?_ | refine Sg.nl1 ?_
     refine Sg.cf rfl rfl ?_
     first | refine Sg.sk ?_ | refine Sg.sk1 ?_
     exact hK _ _ _ (fun j hj => rfl) b9
    ·skip
     obtain ⟨e8, e9⟩ := e7 rfl
     have h3 : 0 < products.length := by have := (hO4 rfl).2 rfl; omega
     have f11 := Kd.C_below q12 b9
     obtain ⟨ad12, hA13, hc14⟩ := Kd.at_int f11 ((products.length - 1 : Nat) : Int) (Int.natCast_nonneg _) (by omega)
     rw [e9] at hc14
     refine Sg.mv (v := .slice A12 products.length c12) (hw := Sg.wy (d := 216) rfl rfl rfl) (hs := Sg.rs rfl h12) (h := ?_)
     refine Sg.mv (v := .slice A12 products.length c12) (hw := Sg.wy (d := 216) rfl rfl rfl) (hs := Sg.rs rfl h12) (h := ?_)
     refine Sg.len (hu := by first | exact Tryz.underlying22 | exact Tryz.underlying26 | exact Tryz.underlying29) (hw := Sg.wy (d := 216) rfl rfl rfl) (h := ?_)
     refine Sg.isub (c := ((products.length - 1 : Nat) : Int)) (hw := Sg.wy (d := 216) rfl rfl rfl) (hc := by unfold wrap64; omega) (h := ?_)
     refine Sg.yy (hy := Sg.Xixa (sz := 1) (i := ((products.length - 1 : Nat) : Int)) (hu := Tryz.underlying29) (hsz := by kernel_rfl) (h0 := Int.natCast_nonneg _) (h1 := by omega) (had := by rw [Nat.mul_one]) (ho := rfl) (hx := Sg.rs rfl (congrArg (fun a_ => Value.slice a_ products.length c12) hA13))) (hw := Sg.wy (d := 216) rfl rfl rfl) (h := ?_)
     refine Sg.yy (hy := Sg.Xldi (hu := Tryz.underlying3) (hc := hc14)) (hw := Sg.wy (d := 216) rfl rfl rfl) (h := ?_)
     refine Sg.mv (v := .int .i64 greatest) (hw := Sg.wy (d := 216) rfl rfl rfl) (hs := Sg.rs rfl h16) (h := ?_)
     refine Sg.ineq (c := false) (hw := Sg.wy (d := 216) rfl rfl rfl) (h := ?_)
     refine Sg.pk (v := .bool false) (hw := Sg.wy (d := 214) rfl rfl rfl) (h := ?_)
     refine Sg.pk (v := .bool false) (h := ?_)
     first | refine Sg.nl ?_ | refine Sg.nl1 ?_
     refine Sg.cf rfl rfl ?_
     first | refine Sg.sk ?_ | refine Sg.sk1 ?_
     exact hK _ _ _ (fun j hj => rfl) b9
theorem g4pE (k : Nat) (children : Int) (sum : Int) (apart : Int) (sets : List (List Int)) (ok : Bool) (products : List Int) (one : Bool) (greatest : Int) (three : Bool) (count : Int) (σ τ : Sg.Fr) (w : World) {rest : Code} {Q : Exit → Act → World → Prop} (hQp : ∀ c (a : Act) d v w, Q (.panic c) (a.put d v) w → Q (.panic c) a w) (hSt : g4St1 children sum apart sets ok products one greatest three count σ w)
    (hE_ : ok = true → ∃ all : List (List Int), impl_SetsApart.f children sum 0 = some (all, true) ∧ ((all.length : Nat) : Int) = count ∧ ((sets.length : Nat) : Int) ≤ count ∧ laws_qOrdered.f k sets = some true ∧ all.length ≤ 1000000 ∧
      ∀ i : Nat, i < all.length → ∃ s : List Int, rd_L2 all ((i : Nat) : Int) = s ∧ ((s.length : Nat) : Int) = children ∧ (1 ≤ s.length ∧ s.length ≤ 4) ∧ laws_qSum.f k s = some sum ∧ impl_IsSet.f k s = some true ∧ (((i : Nat) : Int) < 40 → laws_qHas.f k products (prodTo s s.length) = some true ∧ laws_qHasRow.f k sets s = some (farTo apart s (s.length - 1))))
    (hK : ∀ σ' τ' w', (∀ j, j < 24 → σ' j = σ j) → Below w.heap.size w w' → rest.wp Tryz.prog Q (Sg.fr 556 (Sg.mix 61 σ' τ')) w') :
    (Code.seq (g4S 13) rest).wp Tryz.prog Q (Sg.fr 556 (Sg.mix 61 σ τ)) w := by
  obtain ⟨A8, c8, A12, c12, ⟨h5, h6, h7, h8, h9, h12, h13, h16, h17, h20⟩, ⟨q8, p8⟩, ⟨q12, p12⟩⟩ := hSt
  refine Sg.sq ?_
  refine Sg.sq ?_
  refine Sg.rg ?_
  refine Sg.mv (v := .bool ok) (hs := Sg.rs rfl h9) (h := ?_)
  first | refine Sg.nl ?_ | refine Sg.nl1 ?_
  cases ok
  ·skip
   refine Sg.cf rfl rfl ?_
   first | refine Sg.sk ?_ | refine Sg.sk1 ?_
   exact hK _ _ _ (fun j hj => rfl) (Below.refl _ _)
  ·skip
   obtain ⟨all, e1, e2, e3, e4, e5, e6⟩ := hE_ rfl
   refine Sg.ct rfl rfl ?_
   refine Sg.sq ?_
   refine Sg.rg ?_
   refine Sg.mv (v := .int .i64 children) (hs := Sg.rs rfl h5) (h := ?_)
   refine Sg.mv (v := .int .i64 sum) (hs := Sg.rs rfl h6) (h := ?_)
   refine Sg.cl (args := #[.int .i64 children, .int .i64 sum, .int .i64 0]) (hf := Tryz.func6) (hargs := Sg.a3 (Sg.rs rfl rfl) (Sg.rs rfl rfl) Sg.rc) (h := ?_)
   refine (impl_SetsApart.calls children sum 0 all true _ e1).mono ?_
   rintro _ w1 ⟨v3, rfl, r4, b2⟩
   obtain ⟨A5, c6, rfl, f8, f7⟩ := Kd.S_reads r4
   refine ⟨_, _, rfl, (Sg.ps rfl), ?_⟩
   refine Sg.mv (v := .tuple #[.slice A5 all.length c6, .bool true]) (h := ?_)
   refine Sg.ext (v := .slice A5 all.length c6) (h := ?_)
   refine Sg.ext (v := .bool true) (h := ?_)
   refine Sg.asg (v := .slice A5 all.length c6) (h := ?_)
   refine Sg.asg (v := .bool true) (h := ?_)
   first | refine Sg.nl ?_ | refine Sg.nl1 ?_
   refine Sg.sq ?_
   refine Sg.sq ?_
   refine Sg.rg ?_
   refine Sg.mv (v := .bool true) (h := ?_)
   refine Sg.nt (b := true) (h := ?_)
   refine Sg.mv (v := .bool false) (h := ?_)
   refine Sg.mv (v := .slice A5 all.length c6) (hw := Sg.wy (d := 236) rfl rfl rfl) (h := ?_)
   refine Sg.len (hu := by first | exact Tryz.underlying22 | exact Tryz.underlying26 | exact Tryz.underlying29) (hw := Sg.wy (d := 236) rfl rfl rfl) (h := ?_)
   refine Sg.mv (v := .int .i64 count) (hw := Sg.wy (d := 236) rfl rfl rfl) (hs := Sg.rs rfl h20) (h := ?_)
   refine Sg.ineq (c := false) (hw := Sg.wy (d := 236) rfl rfl rfl) (hc := iff_of_false (by omega) Bool.false_ne_true) (h := ?_)
   refine Sg.pk (v := .bool false) (h := ?_)
   refine Sg.mv (v := .bool false) (h := ?_)
   refine Sg.mv (v := .slice A8 sets.length c8) (hw := Sg.wy (d := 242) rfl rfl rfl) (hs := Sg.rs rfl h8) (h := ?_)
   refine Sg.len (hu := by first | exact Tryz.underlying22 | exact Tryz.underlying26 | exact Tryz.underlying29) (hw := Sg.wy (d := 242) rfl rfl rfl) (h := ?_)
   refine Sg.mv (v := .int .i64 count) (hw := Sg.wy (d := 242) rfl rfl rfl) (hs := Sg.rs rfl h20) (h := ?_)
   refine Sg.igtr (c := false) (hw := Sg.wy (d := 242) rfl rfl rfl) (hc := iff_of_false (by omega) Bool.false_ne_true) (h := ?_)
   refine Sg.pk (v := .bool false) (h := ?_)
   refine Sg.mv (v := .bool false) (h := ?_)
   refine Sg.mv (v := .slice A8 sets.length c8) (hw := Sg.wy (d := 248) rfl rfl rfl) (hs := Sg.rs rfl h8) (h := ?_)
   refine Sg.cl (args := #[.slice A8 sets.length c8]) (hf := Tryz.func17) (hw := Sg.wy (d := 248) rfl rfl rfl) (hargs := Sg.a1 (Sg.rs rfl rfl)) (h := ?_)
   have f9 := Kd.C_below q8 b2
   refine (laws_qOrdered.calls k A8 c8 sets true _ f9 p8 e4).mono ?_
   rintro _ w10 ⟨rfl, d12⟩
   have b11 := d12.below
   refine ⟨_, _, rfl, (Sg.ps rfl), ?_⟩
   refine Sg.nt (b := true) (hw := Sg.wy (d := 248) rfl rfl rfl) (h := ?_)
   refine Sg.pk (v := .bool false) (h := ?_)
   first | refine Sg.nl ?_ | refine Sg.nl1 ?_
   refine Sg.cf rfl rfl ?_
   first | refine Sg.sk ?_ | refine Sg.sk1 ?_
   refine Sg.sq ?_
   refine Sg.rg ?_
   refine Sg.mv (v := .slice A5 all.length c6) (h := ?_)
   refine Sg.len (hu := by first | exact Tryz.underlying22 | exact Tryz.underlying26 | exact Tryz.underlying29) (h := ?_)
   refine Sg.mv (v := .int .i64 0) (h := ?_)
   first | refine Sg.nl ?_ | refine Sg.nl1 ?_
   refine Sg.gs fun σ13 hσ14 => ?_
   refine Sg.bl ?_
   refine Sg.lp (all.length) (fun i σ' τ' w' => (∀ j, j < 61 → j ≠ 26 → j ≠ 27 → j ≠ 28 → j ≠ 30 → j ≠ 31 → j ≠ 32 → σ' j = σ13 j) ∧ τ' 253 = .slice A5 all.length c6 ∧ τ' 254 = .int .i64 ((all.length : Nat) : Int) ∧ τ' 255 = .int .i64 ((i : Nat) : Int) ∧ Below w10.heap.size w10 w') 0 (Nat.zero_le _) ⟨fun _ _ _ _ _ _ _ _ => rfl, rfl, rfl, rfl, Below.refl _ _⟩ ?_
   rintro i σ15 τ16 w17 hi_i ⟨s18, t21, t22, t23, b19⟩ K20 hK20
   by_cases hlt_i : i < all.length
   ·skip
    obtain ⟨s, g1, g2, ⟨g3, g4⟩, g5, g6, g7⟩ := e6 i hlt_i
    have f24 := Kd.C_below f7 (below_step b11 b19)
    obtain ⟨ad25, A26, c27, hA28, hc29, hl30, hC31⟩ := at_L2 f24 ((i : Nat) : Int) (Int.natCast_nonneg _) (Int.ofNat_lt.2 hlt_i)
    rw [g1] at hc29 hl30 hC31
    refine Sg.sq ?_
    refine Sg.rg ?_
    refine Sg.ilss (c := true) (hx := Sg.rs rfl t23) (hy := Sg.rs rfl t22) (hc := iff_of_true (by omega) rfl) (h := ?_)
    first | refine Sg.nl ?_ | refine Sg.nl1 ?_
    refine Sg.sq ?_
    refine Sg.ct rfl rfl ?_
    first | refine Sg.sk ?_ | refine Sg.sk1 ?_
    refine Sg.sq ?_
    refine Sg.bl ?_
    refine Sg.sq ?_
    refine Sg.rg ?_
    refine Sg.mv (v := .int .i64 ((i : Nat) : Int)) (hs := Sg.rs rfl t23) (h := ?_)
    refine Sg.yy (hy := Sg.Xixa (sz := 1) (i := ((i : Nat) : Int)) (hu := Tryz.underlying26) (hsz := by kernel_rfl) (h0 := Int.natCast_nonneg _) (h1 := Int.ofNat_lt.2 hlt_i) (had := by rw [Nat.mul_one]) (ho := rfl) (hx := Sg.rs rfl (t21.trans (congrArg (fun a_ => Value.slice a_ all.length c6) hA28))) (hy := Sg.rs rfl t23)) (h := ?_)
    refine Sg.yy (hy := Sg.Xlds Tryz.underlying29 rfl (Sg.rs rfl rfl) hc29) (h := ?_)
    refine Sg.asg (v := .int .i64 ((i : Nat) : Int)) (h := ?_)
    refine Sg.asg (v := .slice A26 s.length c27) (h := ?_)
    first | refine Sg.nl ?_ | refine Sg.nl1 ?_
    refine Sg.sq ?_
    refine Sg.rg ?_
    refine Sg.asg (v := .int .i64 1) (h := ?_)
    first | refine Sg.nl ?_ | refine Sg.nl1 ?_
    refine Sg.sq ?_
    refine Sg.sq ?_
    refine Sg.rg ?_
    refine Sg.mv (v := .slice A26 s.length c27) (h := ?_)
    refine Sg.len (hu := by first | exact Tryz.underlying22 | exact Tryz.underlying26 | exact Tryz.underlying29) (h := ?_)
    refine Sg.mv (v := .int .i64 0) (h := ?_)
    first | refine Sg.nl ?_ | refine Sg.nl1 ?_
    refine Sg.gs fun σ32 hσ33 => ?_
    refine Sg.bl ?_
    refine Sg.lp (s.length) (fun j_ σ' τ' w' => (∀ j, j < 61 → j ≠ 28 → j ≠ 30 → σ' j = σ32 j) ∧ τ' 253 = .slice A5 all.length c6 ∧ τ' 254 = .int .i64 ((all.length : Nat) : Int) ∧ τ' 255 = .int .i64 ((i : Nat) : Int) ∧ τ' 260 = .slice A26 s.length c27 ∧ τ' 261 = .int .i64 ((s.length : Nat) : Int) ∧ τ' 262 = .int .i64 ((j_ : Nat) : Int) ∧ σ' 28 = .int .i64 (prodTo s j_) ∧ Below w17.heap.size w17 w') 0 (Nat.zero_le _) ⟨fun _ _ _ _ => rfl, t21, t22, t23, rfl, rfl, rfl, ((congrFun hσ33 28).trans rfl), Below.refl _ _⟩ ?_
    rintro j_ σ34 τ35 w36 hi_j_ ⟨s37, t40, t41, t42, t43, t44, t45, t46, b38⟩ K39 hK39
    by_cases hlt_j_ : j_ < s.length
    ·skip
     have f47 := Kd.C_below hC31 b38
     obtain ⟨ad48, hA49, hc50⟩ := Kd.at_int f47 ((j_ : Nat) : Int) (Int.natCast_nonneg _) (Int.ofNat_lt.2 hlt_j_)
     refine Sg.sq ?_
     refine Sg.rg ?_
     refine Sg.ilss (c := true) (hx := Sg.rs rfl t45) (hy := Sg.rs rfl t44) (hc := iff_of_true (by omega) rfl) (h := ?_)
     first | refine Sg.nl ?_ | refine Sg.nl1 ?_
     refine Sg.sq ?_
     refine Sg.ct rfl rfl ?_
     first | refine Sg.sk ?_ | refine Sg.sk1 ?_
     refine Sg.sq ?_
     refine Sg.bl ?_
     refine Sg.sq ?_
     refine Sg.rg ?_
     refine Sg.yy (hy := Sg.Xixa (sz := 1) (i := ((j_ : Nat) : Int)) (hu := Tryz.underlying29) (hsz := by kernel_rfl) (h0 := Int.natCast_nonneg _) (h1 := Int.ofNat_lt.2 hlt_j_) (had := by rw [Nat.mul_one]) (ho := rfl) (hx := Sg.rs rfl (t43.trans (congrArg (fun a_ => Value.slice a_ s.length c27) hA49))) (hy := Sg.rs rfl t45)) (h := ?_)
     refine Sg.yy (hy := Sg.Xldi (hu := Tryz.underlying3) (hc := hc50)) (h := ?_)
     refine Sg.asg (v := .int .i64 (rd s ((j_ : Nat) : Int))) (h := ?_)
     first | refine Sg.nl ?_ | refine Sg.nl1 ?_
     refine Sg.rg ?_
     refine Sg.mv (v := .int .i64 (prodTo s j_)) (hs := Sg.rs rfl t46) (h := ?_)
     refine Sg.mv (v := .int .i64 (rd s ((j_ : Nat) : Int))) (h := ?_)
     refine Sg.imul (c := prodTo s (j_ + 1)) (hc := rfl) (h := ?_)
     refine Sg.asg (v := .int .i64 (prodTo s (j_ + 1))) (h := ?_)
     first | refine Sg.nl ?_ | refine Sg.nl1 ?_
     refine Sg.rg ?_
     refine Sg.iadd (c := ((j_ + 1 : Nat) : Int)) (hx := Sg.rs rfl t45) (hc := by unfold wrap64; omega) (h := ?_)
     refine Sg.mv (v := .int .i64 ((j_ + 1 : Nat) : Int)) (h := ?_)
     first | refine Sg.nl ?_ | refine Sg.nl1 ?_
     exact hK39 _ _ _ hlt_j_ ⟨fun j hj h28_ h30_ => (Sg.un (by omega)).trans ((Sg.un (by omega)).trans ((s37 _ (by omega) (by omega) (by omega)))), t40, t41, t42, t43, t44, rfl, rfl, b38⟩
    ·skip
     have h51 : s.length = j_ := by omega
     subst h51
     refine Sg.sq ?_
     refine Sg.rg ?_
     refine Sg.ilss (c := false) (hx := Sg.rs rfl t45) (hy := Sg.rs rfl t44) (h := ?_)
     first | refine Sg.nl ?_ | refine Sg.nl1 ?_
     refine Sg.sq ?_
     refine Sg.cf rfl rfl ?_
     refine Sg.ex0 ?_
     refine Sg.sq ?_
     refine Sg.sq ?_
     by_cases hi40 : ((i : Nat) : Int) < 40
     ·skip
      obtain ⟨g8, g9⟩ := g7 hi40
      refine Sg.rg ?_
      refine Sg.mv (v := .slice A26 s.length c27) (hs := Sg.rs rfl ((s37 27 (by decide) (by decide) (by decide)).trans ((congrFun hσ33 27).trans rfl))) (h := ?_)
      refine Sg.len (hu := by first | exact Tryz.underlying22 | exact Tryz.underlying26 | exact Tryz.underlying29) (h := ?_)
      refine Sg.mv (v := .int .i64 children) (hs := Sg.rs rfl ((s37 5 (by decide) (by decide) (by decide)).trans ((congrFun hσ33 5).trans ((s18 5 (by decide) (by decide) (by decide) (by decide) (by decide) (by decide) (by decide)).trans ((congrFun hσ14 5).trans h5))))) (h := ?_)
      refine Sg.ineq (c := false) (hc := iff_of_false (by omega) Bool.false_ne_true) (h := ?_)
      refine Sg.mv (v := .bool false) (h := ?_)
      refine Sg.mv (v := .slice A26 s.length c27) (hw := Sg.wy (d := 274) rfl rfl rfl) (hs := Sg.rs rfl ((s37 27 (by decide) (by decide) (by decide)).trans ((congrFun hσ33 27).trans rfl))) (h := ?_)
      refine Sg.cl (args := #[.slice A26 s.length c27]) (hf := Tryz.func18) (hw := Sg.wy (d := 274) rfl rfl rfl) (hargs := Sg.a1 (Sg.rs rfl rfl)) (h := ?_)
      have f52 := Kd.C_below hC31 b38
      refine (laws_qSum.calls k A26 c27 s sum _ f52 hl30 g5).mono ?_
      rintro _ w53 ⟨rfl, d55⟩
      have b54 := d55.below
      refine ⟨_, _, rfl, (Sg.ps rfl), ?_⟩
      refine Sg.mv (v := .int .i64 sum) (hw := Sg.wy (d := 274) rfl rfl rfl) (hs := Sg.rs rfl ((s37 6 (by decide) (by decide) (by decide)).trans ((congrFun hσ33 6).trans ((s18 6 (by decide) (by decide) (by decide) (by decide) (by decide) (by decide) (by decide)).trans ((congrFun hσ14 6).trans h6))))) (h := ?_)
      refine Sg.ineq (c := false) (hw := Sg.wy (d := 274) rfl rfl rfl) (h := ?_)
      refine Sg.pk (v := .bool false) (h := ?_)
      refine Sg.mv (v := .bool false) (h := ?_)
      refine Sg.mv (v := .slice A26 s.length c27) (hw := Sg.wy (d := 280) rfl rfl rfl) (hs := Sg.rs rfl ((s37 27 (by decide) (by decide) (by decide)).trans ((congrFun hσ33 27).trans rfl))) (h := ?_)
      refine Sg.cl (args := #[.slice A26 s.length c27]) (hf := Tryz.func19) (hw := Sg.wy (d := 280) rfl rfl rfl) (hargs := Sg.a1 (Sg.rs rfl rfl)) (h := ?_)
      have f56 := Kd.C_below f52 b54
      refine (impl_IsSet.calls k A26 c27 s true _ f56 hl30 g6).mono ?_
      rintro _ w57 ⟨rfl, b58⟩
      refine ⟨_, _, rfl, (Sg.ps rfl), ?_⟩
      refine Sg.nt (b := true) (hw := Sg.wy (d := 280) rfl rfl rfl) (h := ?_)
      refine Sg.pk (v := .bool false) (h := ?_)
      refine Sg.mv (v := .bool false) (h := ?_)
      refine Sg.mv (v := .int .i64 ((i : Nat) : Int)) (hw := Sg.wy (d := 285) rfl rfl rfl) (hs := Sg.rs rfl ((s37 26 (by decide) (by decide) (by decide)).trans ((congrFun hσ33 26).trans rfl))) (h := ?_)
      refine Sg.ilss (c := true) (hw := Sg.wy (d := 285) rfl rfl rfl) (hc := iff_of_true hi40 rfl) (h := ?_)
      refine Sg.mv (v := .bool true) (hw := Sg.wy (d := 285) rfl rfl rfl) (h := ?_)
      refine Sg.mv (v := .slice A12 products.length c12) (hw := Sg.wy (d := 288) rfl rfl rfl) (hs := Sg.rs rfl ((s37 12 (by decide) (by decide) (by decide)).trans ((congrFun hσ33 12).trans ((s18 12 (by decide) (by decide) (by decide) (by decide) (by decide) (by decide) (by decide)).trans ((congrFun hσ14 12).trans h12))))) (h := ?_)
      refine Sg.mv (v := .int .i64 (prodTo s s.length)) (hw := Sg.wy (d := 288) rfl rfl rfl) (hs := Sg.rs rfl t46) (h := ?_)
      refine Sg.cl (args := #[.slice A12 products.length c12, .int .i64 (prodTo s s.length)]) (hf := Tryz.func20) (hw := Sg.wy (d := 288) rfl rfl rfl) (hargs := Sg.a2 (Sg.rs rfl rfl) (Sg.rs rfl rfl)) (h := ?_)
      have f59 := Kd.C_below q12 (below_step (below_step (below_step (below_step (below_step b2 b11) b19) b38) b54) b58)
      refine (laws_qHas.calls k A12 c12 products (prodTo s s.length) true _ f59 p12 g8).mono ?_
      rintro _ w60 ⟨rfl, d62⟩
      have b61 := d62.below
      refine ⟨_, _, rfl, (Sg.ps rfl), ?_⟩
      refine Sg.nt (b := true) (hw := Sg.wy (d := 288) rfl rfl rfl) (h := ?_)
      refine Sg.pk (v := .bool false) (hw := Sg.wy (d := 285) rfl rfl rfl) (h := ?_)
      refine Sg.pk (v := .bool false) (h := ?_)
      first | refine Sg.nl ?_ | refine Sg.nl1 ?_
      refine Sg.cf rfl rfl ?_
      first | refine Sg.sk ?_ | refine Sg.sk1 ?_
      refine Sg.sq ?_
      refine Sg.rg ?_
      refine Sg.asg (v := .bool true) (h := ?_)
      first | refine Sg.nl ?_ | refine Sg.nl1 ?_
      refine Sg.sq ?_
      refine Sg.sq ?_
      refine Sg.rg ?_
      refine Sg.asg (v := .int .i64 1) (h := ?_)
      first | refine Sg.nl ?_ | refine Sg.nl1 ?_
      refine Sg.gs fun σ63 hσ64 => ?_
      refine Sg.bl ?_
      refine Sg.lp (s.length - 1) (fun j_ σ' τ' w' => (∀ j, j < 61 → j ≠ 31 → j ≠ 32 → σ' j = σ63 j) ∧ τ' 253 = .slice A5 all.length c6 ∧ τ' 254 = .int .i64 ((all.length : Nat) : Int) ∧ τ' 255 = .int .i64 ((i : Nat) : Int) ∧ σ' 32 = .int .i64 ((1 + j_ : Nat) : Int) ∧ σ' 31 = .bool (farTo apart s j_) ∧ Below w60.heap.size w60 w') 0 (Nat.zero_le _) ⟨fun _ _ _ _ => rfl, t40, t41, t42, ((congrFun hσ64 32).trans rfl), ((congrFun hσ64 31).trans rfl), Below.refl _ _⟩ ?_
      rintro j_ σ65 τ66 w67 hi_j_ ⟨s68, t71, t72, t73, t74, t75, b69⟩ K70 hK70
      by_cases hlt_j_ : j_ < s.length - 1
      ·skip
       obtain ⟨b31, hb31⟩ : ∃ b, b = farTo apart s j_ := ⟨_, rfl⟩
       rw [← hb31] at t75
       have hltq : 1 + j_ < s.length := by omega
       have f76 := Kd.C_below f56 (below_step (below_step b58 b61) b69)
       obtain ⟨ad77, hA78, hc79⟩ := Kd.at_int f76 ((1 + j_ : Nat) : Int) (Int.natCast_nonneg _) (Int.ofNat_lt.2 hltq)
       obtain ⟨ad80, hA81, hc82⟩ := Kd.at_int f76 ((j_ : Nat) : Int) (Int.natCast_nonneg _) (Int.ofNat_lt.2 (show j_ < s.length by omega))
       refine Sg.sq ?_
       refine Sg.sq ?_
       refine Sg.rg ?_
       refine Sg.mv (v := .int .i64 ((1 + j_ : Nat) : Int)) (hs := Sg.rs rfl t74) (h := ?_)
       refine Sg.mv (v := .slice A26 s.length c27) (hs := Sg.rs rfl ((s68 27 (by decide) (by decide) (by decide)).trans ((congrFun hσ64 27).trans ((s37 27 (by decide) (by decide) (by decide)).trans ((congrFun hσ33 27).trans rfl))))) (h := ?_)
       refine Sg.len (hu := by first | exact Tryz.underlying22 | exact Tryz.underlying26 | exact Tryz.underlying29) (h := ?_)
       refine Sg.ilss (c := true) (hc := iff_of_true (by omega) rfl) (h := ?_)
       first | refine Sg.nl ?_ | refine Sg.nl1 ?_
       refine Sg.ct rfl rfl ?_
       first | refine Sg.sk ?_ | refine Sg.sk1 ?_
       refine Sg.sq ?_
       refine Sg.bl ?_
       have f85 := pw_cell_below (below_step (below_step (below_step (below_step b38 b54) b58) b61) b69) hc29
       refine Sg.da (k := 16) (h := fun w83 b84 => ?_)
       refine Sg.dv (i := 0) (hi := rfl) (hy := fun _ => (Sg.Xmv (v := .bool b31) (ho := rfl) (hs := Sg.rs rfl t75))) (h := ?_)
       refine Sg.dv (i := 1) (hi := rfl) (hy := fun _ => (Sg.Xmv (v := .bool b31))) (h := ?_)
       cases b31
       ·skip
        refine Sg.doff (i := 2) (hi := rfl) (hg := rfl) (hw := Sg.yl (d := 302) rfl rfl rfl) (hb := rfl) (h := ?_)
        refine Sg.doff (i := 3) (hi := rfl) (hg := rfl) (hw := Sg.yl (d := 302) rfl rfl rfl) (hb := rfl) (h := ?_)
        refine Sg.doff (i := 4) (hi := rfl) (hg := rfl) (hw := Sg.yl (d := 302) rfl rfl rfl) (hb := rfl) (h := ?_)
        refine Sg.doff (i := 5) (hi := rfl) (hg := rfl) (hw := Sg.yl (d := 302) rfl rfl rfl) (hb := rfl) (h := ?_)
        refine Sg.doff (i := 6) (hi := rfl) (hg := rfl) (hw := Sg.yl (d := 302) rfl rfl rfl) (hb := rfl) (h := ?_)
        refine Sg.doff (i := 7) (hi := rfl) (hg := rfl) (hw := Sg.yl (d := 302) rfl rfl rfl) (hb := rfl) (h := ?_)
        refine Sg.doff (i := 8) (hi := rfl) (hg := rfl) (hw := Sg.yl (d := 302) rfl rfl rfl) (hb := rfl) (h := ?_)
        refine Sg.doff (i := 9) (hi := rfl) (hg := rfl) (hw := Sg.yl (d := 302) rfl rfl rfl) (hb := rfl) (h := ?_)
        refine Sg.doff (i := 10) (hi := rfl) (hg := rfl) (hw := Sg.yl (d := 302) rfl rfl rfl) (hb := rfl) (h := ?_)
        refine Sg.doff (i := 11) (hi := rfl) (hg := rfl) (hw := Sg.yl (d := 302) rfl rfl rfl) (hb := rfl) (h := ?_)
        refine Sg.doff (i := 12) (hi := rfl) (hg := rfl) (hw := Sg.yl (d := 302) rfl rfl rfl) (hb := rfl) (h := ?_)
        refine Sg.doff (i := 13) (hi := rfl) (hg := rfl) (hw := Sg.yl (d := 302) rfl rfl rfl) (hb := rfl) (h := ?_)
        refine Sg.dv (i := 14) (hi := rfl) (hy := fun _ => (Sg.Xpk (v := .bool false))) (h := ?_)
        refine Sg.dv (i := 15) (hi := rfl) (hy := fun _ => (Sg.Xasg (v := .bool false))) (h := ?_)
        first | refine Sg.dend (h := ?_) | refine Sg.dend1 (h := ?_)
        refine Sg.rg ?_
        refine Sg.mv (v := .int .i64 ((1 + j_ : Nat) : Int)) (hs := Sg.rs rfl t74) (h := ?_)
        refine Sg.iadd (c := ((1 + (j_ + 1) : Nat) : Int)) (hc := by unfold wrap64; omega) (h := ?_)
        refine Sg.asg (v := .int .i64 ((1 + (j_ + 1) : Nat) : Int)) (h := ?_)
        first | refine Sg.nl ?_ | refine Sg.nl1 ?_
        exact hK70 _ _ _ hlt_j_ ⟨fun j hj h31_ h32_ => (Sg.un (by omega)).trans ((Sg.un (by omega)).trans ((s68 _ (by omega) (by omega) (by omega)))), t71, t72, t73, rfl, (show Value.bool false = Value.bool (farTo apart s j_ && decide ((wrap64 (rd s ((1 + j_ : Nat) : Int) - rd s ((j_ : Nat) : Int))) ≥ apart)) by rw [← hb31]; rfl), (below_step b69 b84)⟩
       ·skip
        refine Sg.dv (i := 2) (hi := rfl) (hy := fun _ => (Sg.Xmv (v := .slice A26 s.length c27) (ho := rfl) (hs := Sg.rs rfl ((s68 27 (by decide) (by decide) (by decide)).trans ((congrFun hσ64 27).trans ((s37 27 (by decide) (by decide) (by decide)).trans ((congrFun hσ33 27).trans rfl))))))) (hw := Sg.wy (d := 302) rfl rfl rfl) (h := ?_)
        refine Sg.dv (i := 3) (hi := rfl) (hy := fun _ => (Sg.Xmv (v := .int .i64 ((1 + j_ : Nat) : Int)) (ho := rfl) (hs := Sg.rs rfl t74))) (hw := Sg.wy (d := 302) rfl rfl rfl) (h := ?_)
        refine Sg.dv (i := 4) (hi := rfl) (hy := fun _ => (Sg.Xixa (sz := 1) (i := ((1 + j_ : Nat) : Int)) (hu := Tryz.underlying29) (hsz := by kernel_rfl) (h0 := Int.natCast_nonneg _) (h1 := Int.ofNat_lt.2 hltq) (had := by rw [Nat.mul_one]) (ho := rfl) (hx := Sg.rs rfl (congrArg (fun a_ => Value.slice a_ s.length c27) hA78)))) (hw := Sg.wy (d := 302) rfl rfl rfl) (h := ?_)
        refine Sg.dt (i := 5) (hi := rfl) (hb := b84) (hy := fun w_ b_ => (Sg.Xldi (hu := Tryz.underlying3) (hc := pw_cell_below b_ hc79 ))) (hw := Sg.wy (d := 302) rfl rfl rfl) (h := ?_)
        refine Sg.dv (i := 6) (hi := rfl) (hy := fun _ => (Sg.Xmv (v := .slice A26 s.length c27) (ho := rfl) (hs := Sg.rs rfl ((s68 27 (by decide) (by decide) (by decide)).trans ((congrFun hσ64 27).trans ((s37 27 (by decide) (by decide) (by decide)).trans ((congrFun hσ33 27).trans rfl))))))) (hw := Sg.wy (d := 302) rfl rfl rfl) (h := ?_)
        refine Sg.dv (i := 7) (hi := rfl) (hy := fun _ => (Sg.Xmv (v := .int .i64 ((1 + j_ : Nat) : Int)) (ho := rfl) (hs := Sg.rs rfl t74))) (hw := Sg.wy (d := 302) rfl rfl rfl) (h := ?_)
        refine Sg.dv (i := 8) (hi := rfl) (hy := fun _ => (Sg.Xbin (v3 := .int .i64 ((j_ : Nat) : Int)) (hv := Sg.Isub (by unfold wrap64; omega)))) (hw := Sg.wy (d := 302) rfl rfl rfl) (h := ?_)
        refine Sg.dv (i := 9) (hi := rfl) (hy := fun _ => (Sg.Xixa (sz := 1) (i := ((j_ : Nat) : Int)) (hu := Tryz.underlying29) (hsz := by kernel_rfl) (h0 := Int.natCast_nonneg _) (h1 := Int.ofNat_lt.2 (show j_ < s.length by omega)) (had := by rw [Nat.mul_one]) (ho := rfl) (hx := Sg.rs rfl (congrArg (fun a_ => Value.slice a_ s.length c27) hA81)))) (hw := Sg.wy (d := 302) rfl rfl rfl) (h := ?_)
        refine Sg.dt (i := 10) (hi := rfl) (hb := b84) (hy := fun w_ b_ => (Sg.Xldi (hu := Tryz.underlying3) (hc := pw_cell_below b_ hc82 ))) (hw := Sg.wy (d := 302) rfl rfl rfl) (h := ?_)
        refine Sg.dv (i := 11) (hi := rfl) (hy := fun _ => (Sg.Xbin (v3 := .int .i64 (wrap64 (rd s ((1 + j_ : Nat) : Int) - rd s ((j_ : Nat) : Int)))) (hv := Sg.Isub rfl))) (hw := Sg.wy (d := 302) rfl rfl rfl) (h := ?_)
        refine Sg.dv (i := 12) (hi := rfl) (hy := fun _ => (Sg.Xmv (v := .int .i64 apart) (ho := rfl) (hs := Sg.rs rfl ((s68 7 (by decide) (by decide) (by decide)).trans ((congrFun hσ64 7).trans ((s37 7 (by decide) (by decide) (by decide)).trans ((congrFun hσ33 7).trans ((s18 7 (by decide) (by decide) (by decide) (by decide) (by decide) (by decide) (by decide)).trans ((congrFun hσ14 7).trans h7))))))))) (hw := Sg.wy (d := 302) rfl rfl rfl) (h := ?_)
        refine Sg.dv (i := 13) (hi := rfl) (hy := fun _ => (Sg.Xbin (v3 := .bool (decide ((wrap64 (rd s ((1 + j_ : Nat) : Int) - rd s ((j_ : Nat) : Int))) ≥ apart))) (hv := Sg.Igeq (by rw [decide_eq_true_iff])))) (hw := Sg.wy (d := 302) rfl rfl rfl) (h := ?_)
        refine Sg.dv (i := 14) (hi := rfl) (hy := fun _ => (Sg.Xpk (v := .bool (decide ((wrap64 (rd s ((1 + j_ : Nat) : Int) - rd s ((j_ : Nat) : Int))) ≥ apart))))) (h := ?_)
        refine Sg.dv (i := 15) (hi := rfl) (hy := fun _ => (Sg.Xasg (v := .bool (decide ((wrap64 (rd s ((1 + j_ : Nat) : Int) - rd s ((j_ : Nat) : Int))) ≥ apart))))) (h := ?_)
        first | refine Sg.dend (h := ?_) | refine Sg.dend1 (h := ?_)
        refine Sg.rg ?_
        refine Sg.mv (v := .int .i64 ((1 + j_ : Nat) : Int)) (hs := Sg.rs rfl t74) (h := ?_)
        refine Sg.iadd (c := ((1 + (j_ + 1) : Nat) : Int)) (hc := by unfold wrap64; omega) (h := ?_)
        refine Sg.asg (v := .int .i64 ((1 + (j_ + 1) : Nat) : Int)) (h := ?_)
        first | refine Sg.nl ?_ | refine Sg.nl1 ?_
        exact hK70 _ _ _ hlt_j_ ⟨fun j hj h31_ h32_ => (Sg.un (by omega)).trans ((Sg.un (by omega)).trans ((s68 _ (by omega) (by omega) (by omega)))), t71, t72, t73, rfl, (show Value.bool (decide ((wrap64 (rd s ((1 + j_ : Nat) : Int) - rd s ((j_ : Nat) : Int))) ≥ apart)) = Value.bool (farTo apart s j_ && decide ((wrap64 (rd s ((1 + j_ : Nat) : Int) - rd s ((j_ : Nat) : Int))) ≥ apart)) by rw [← hb31]; rfl), (below_step b69 b84)⟩
      ·skip
       have h86 : s.length - 1 = j_ := by omega
       subst h86
       refine Sg.sq ?_
       refine Sg.sq ?_
       refine Sg.rg ?_
       refine Sg.mv (v := .int .i64 ((1 + (s.length - 1) : Nat) : Int)) (hs := Sg.rs rfl t74) (h := ?_)
       refine Sg.mv (v := .slice A26 s.length c27) (hs := Sg.rs rfl ((s68 27 (by decide) (by decide) (by decide)).trans ((congrFun hσ64 27).trans ((s37 27 (by decide) (by decide) (by decide)).trans ((congrFun hσ33 27).trans rfl))))) (h := ?_)
       refine Sg.len (hu := by first | exact Tryz.underlying22 | exact Tryz.underlying26 | exact Tryz.underlying29) (h := ?_)
       refine Sg.ilss (c := false) (hc := iff_of_false (by omega) Bool.false_ne_true) (h := ?_)
       first | refine Sg.nl ?_ | refine Sg.nl1 ?_
       refine Sg.cf rfl rfl ?_
       refine Sg.ex0 ?_
       refine Sg.sq ?_
       refine Sg.rg ?_
       refine Sg.mv (v := .int .i64 ((i : Nat) : Int)) (hs := Sg.rs rfl ((s68 26 (by decide) (by decide) (by decide)).trans ((congrFun hσ64 26).trans ((s37 26 (by decide) (by decide) (by decide)).trans ((congrFun hσ33 26).trans rfl))))) (h := ?_)
       refine Sg.ilss (c := true) (hc := iff_of_true hi40 rfl) (h := ?_)
       refine Sg.mv (v := .bool true) (h := ?_)
       refine Sg.mv (v := .bool (farTo apart s (s.length - 1))) (hw := Sg.wy (d := 318) rfl rfl rfl) (hs := Sg.rs rfl t75) (h := ?_)
       refine Sg.mv (v := .slice A8 sets.length c8) (hw := Sg.wy (d := 318) rfl rfl rfl) (hs := Sg.rs rfl ((s68 8 (by decide) (by decide) (by decide)).trans ((congrFun hσ64 8).trans ((s37 8 (by decide) (by decide) (by decide)).trans ((congrFun hσ33 8).trans ((s18 8 (by decide) (by decide) (by decide) (by decide) (by decide) (by decide) (by decide)).trans ((congrFun hσ14 8).trans h8))))))) (h := ?_)
       refine Sg.mv (v := .slice A26 s.length c27) (hw := Sg.wy (d := 318) rfl rfl rfl) (hs := Sg.rs rfl ((s68 27 (by decide) (by decide) (by decide)).trans ((congrFun hσ64 27).trans ((s37 27 (by decide) (by decide) (by decide)).trans ((congrFun hσ33 27).trans rfl))))) (h := ?_)
       refine Sg.cl (args := #[.slice A8 sets.length c8, .slice A26 s.length c27]) (hf := Tryz.func21) (hw := Sg.wy (d := 318) rfl rfl rfl) (hargs := Sg.a2 (Sg.rs rfl rfl) (Sg.rs rfl rfl)) (h := ?_)
       have f87 := Kd.C_below f9 (below_step (below_step (below_step (below_step (below_step (below_step b11 b19) b38) b54) b58) b61) b69)
       have f88 := Kd.C_below f56 (below_step (below_step b58 b61) b69)
       refine (laws_qHasRow.calls k A8 c8 sets A26 c27 s (farTo apart s (s.length - 1)) _ f87 p8 f88 hl30 g9).mono ?_
       rintro _ w89 ⟨rfl, d91⟩
       have b90 := d91.below
       refine ⟨_, _, rfl, (Sg.ps rfl), ?_⟩
       refine Sg.bneq (c := false) (hu := Tryz.underlying4) (hw := Sg.wy (d := 318) rfl rfl rfl) (h := ?_)
       refine Sg.pk (v := .bool false) (h := ?_)
       first | refine Sg.nl ?_ | refine Sg.nl1 ?_
       refine Sg.cf rfl rfl ?_
       first | refine Sg.sk ?_ | refine Sg.sk1 ?_
       refine Sg.rg ?_
       refine Sg.iadd (c := ((i + 1 : Nat) : Int)) (hx := Sg.rs rfl t73) (hc := by unfold wrap64; omega) (h := ?_)
       refine Sg.mv (v := .int .i64 ((i + 1 : Nat) : Int)) (h := ?_)
       first | refine Sg.nl ?_ | refine Sg.nl1 ?_
       exact hK20 _ _ _ hlt_i ⟨fun j hj h26_ h27_ h28_ h30_ h31_ h32_ => (s68 _ (by omega) (by omega) (by omega)).trans ((congrFun hσ64 _).trans ((Sg.un (by omega)).trans ((Sg.un (by omega)).trans ((s37 _ (by omega) (by omega) (by omega)).trans ((congrFun hσ33 _).trans ((Sg.un (by omega)).trans ((Sg.un (by omega)).trans ((Sg.un (by omega)).trans ((s18 _ (by omega) (by omega) (by omega) (by omega) (by omega) (by omega) (by omega))))))))))), t71, t72, rfl, (below_step (below_step (below_step (below_step (below_step (below_step b19 b38) b54) b58) b61) b69) b90)⟩
     ·skip
      refine Sg.rg ?_
      refine Sg.mv (v := .slice A26 s.length c27) (hs := Sg.rs rfl ((s37 27 (by decide) (by decide) (by decide)).trans ((congrFun hσ33 27).trans rfl))) (h := ?_)
      refine Sg.len (hu := by first | exact Tryz.underlying22 | exact Tryz.underlying26 | exact Tryz.underlying29) (h := ?_)
      refine Sg.mv (v := .int .i64 children) (hs := Sg.rs rfl ((s37 5 (by decide) (by decide) (by decide)).trans ((congrFun hσ33 5).trans ((s18 5 (by decide) (by decide) (by decide) (by decide) (by decide) (by decide) (by decide)).trans ((congrFun hσ14 5).trans h5))))) (h := ?_)
      refine Sg.ineq (c := false) (hc := iff_of_false (by omega) Bool.false_ne_true) (h := ?_)
      refine Sg.mv (v := .bool false) (h := ?_)
      refine Sg.mv (v := .slice A26 s.length c27) (hw := Sg.wy (d := 274) rfl rfl rfl) (hs := Sg.rs rfl ((s37 27 (by decide) (by decide) (by decide)).trans ((congrFun hσ33 27).trans rfl))) (h := ?_)
      refine Sg.cl (args := #[.slice A26 s.length c27]) (hf := Tryz.func18) (hw := Sg.wy (d := 274) rfl rfl rfl) (hargs := Sg.a1 (Sg.rs rfl rfl)) (h := ?_)
      have f92 := Kd.C_below hC31 b38
      refine (laws_qSum.calls k A26 c27 s sum _ f92 hl30 g5).mono ?_
      rintro _ w93 ⟨rfl, d95⟩
      have b94 := d95.below
      refine ⟨_, _, rfl, (Sg.ps rfl), ?_⟩
      refine Sg.mv (v := .int .i64 sum) (hw := Sg.wy (d := 274) rfl rfl rfl) (hs := Sg.rs rfl ((s37 6 (by decide) (by decide) (by decide)).trans ((congrFun hσ33 6).trans ((s18 6 (by decide) (by decide) (by decide) (by decide) (by decide) (by decide) (by decide)).trans ((congrFun hσ14 6).trans h6))))) (h := ?_)
      refine Sg.ineq (c := false) (hw := Sg.wy (d := 274) rfl rfl rfl) (h := ?_)
      refine Sg.pk (v := .bool false) (h := ?_)
      refine Sg.mv (v := .bool false) (h := ?_)
      refine Sg.mv (v := .slice A26 s.length c27) (hw := Sg.wy (d := 280) rfl rfl rfl) (hs := Sg.rs rfl ((s37 27 (by decide) (by decide) (by decide)).trans ((congrFun hσ33 27).trans rfl))) (h := ?_)
      refine Sg.cl (args := #[.slice A26 s.length c27]) (hf := Tryz.func19) (hw := Sg.wy (d := 280) rfl rfl rfl) (hargs := Sg.a1 (Sg.rs rfl rfl)) (h := ?_)
      have f96 := Kd.C_below f92 b94
      refine (impl_IsSet.calls k A26 c27 s true _ f96 hl30 g6).mono ?_
      rintro _ w97 ⟨rfl, b98⟩
      refine ⟨_, _, rfl, (Sg.ps rfl), ?_⟩
      refine Sg.nt (b := true) (hw := Sg.wy (d := 280) rfl rfl rfl) (h := ?_)
      refine Sg.pk (v := .bool false) (h := ?_)
      refine Sg.mv (v := .bool false) (h := ?_)
      refine Sg.mv (v := .int .i64 ((i : Nat) : Int)) (hw := Sg.wy (d := 285) rfl rfl rfl) (hs := Sg.rs rfl ((s37 26 (by decide) (by decide) (by decide)).trans ((congrFun hσ33 26).trans rfl))) (h := ?_)
      refine Sg.ilss (c := false) (hw := Sg.wy (d := 285) rfl rfl rfl) (hc := iff_of_false hi40 Bool.false_ne_true) (h := ?_)
      refine Sg.mv (v := .bool false) (hw := Sg.wy (d := 285) rfl rfl rfl) (h := ?_)
      refine Sg.off (hw := Sg.yl (d := 288) rfl rfl rfl) (hb := rfl) (h := ?_)
      refine Sg.off (hw := Sg.yl (d := 288) rfl rfl rfl) (hb := rfl) (h := ?_)
      refine Sg.off (hw := Sg.yl (d := 288) rfl rfl rfl) (hb := rfl) (h := ?_)
      refine Sg.off (hw := Sg.yl (d := 288) rfl rfl rfl) (hb := rfl) (h := ?_)
      refine Sg.pk (v := .bool false) (hw := Sg.wy (d := 285) rfl rfl rfl) (h := ?_)
      refine Sg.pk (v := .bool false) (h := ?_)
      first | refine Sg.nl ?_ | refine Sg.nl1 ?_
      refine Sg.cf rfl rfl ?_
      first | refine Sg.sk ?_ | refine Sg.sk1 ?_
      refine Sg.sq ?_
      refine Sg.rg ?_
      refine Sg.asg (v := .bool true) (h := ?_)
      first | refine Sg.nl ?_ | refine Sg.nl1 ?_
      refine Sg.sq ?_
      refine Sg.sq ?_
      refine Sg.rg ?_
      refine Sg.asg (v := .int .i64 1) (h := ?_)
      first | refine Sg.nl ?_ | refine Sg.nl1 ?_
      refine Sg.gs fun σ99 hσ100 => ?_
      refine Sg.bl ?_
      refine Sg.lp (s.length - 1) (fun j_ σ' τ' w' => (∀ j, j < 61 → j ≠ 31 → j ≠ 32 → σ' j = σ99 j) ∧ τ' 253 = .slice A5 all.length c6 ∧ τ' 254 = .int .i64 ((all.length : Nat) : Int) ∧ τ' 255 = .int .i64 ((i : Nat) : Int) ∧ σ' 32 = .int .i64 ((1 + j_ : Nat) : Int) ∧ σ' 31 = .bool (farTo apart s j_) ∧ Below w97.heap.size w97 w') 0 (Nat.zero_le _) ⟨fun _ _ _ _ => rfl, t40, t41, t42, ((congrFun hσ100 32).trans rfl), ((congrFun hσ100 31).trans rfl), Below.refl _ _⟩ ?_
      rintro j_ σ101 τ102 w103 hi_j_ ⟨s104, t107, t108, t109, t110, t111, b105⟩ K106 hK106
      by_cases hlt_j_ : j_ < s.length - 1
      ·skip
       obtain ⟨b31, hb31⟩ : ∃ b, b = farTo apart s j_ := ⟨_, rfl⟩
       rw [← hb31] at t111
       have hltq : 1 + j_ < s.length := by omega
       have f112 := Kd.C_below f96 (below_step b98 b105)
       obtain ⟨ad113, hA114, hc115⟩ := Kd.at_int f112 ((1 + j_ : Nat) : Int) (Int.natCast_nonneg _) (Int.ofNat_lt.2 hltq)
       obtain ⟨ad116, hA117, hc118⟩ := Kd.at_int f112 ((j_ : Nat) : Int) (Int.natCast_nonneg _) (Int.ofNat_lt.2 (show j_ < s.length by omega))
       refine Sg.sq ?_
       refine Sg.sq ?_
       refine Sg.rg ?_
       refine Sg.mv (v := .int .i64 ((1 + j_ : Nat) : Int)) (hs := Sg.rs rfl t110) (h := ?_)
       refine Sg.mv (v := .slice A26 s.length c27) (hs := Sg.rs rfl ((s104 27 (by decide) (by decide) (by decide)).trans ((congrFun hσ100 27).trans ((s37 27 (by decide) (by decide) (by decide)).trans ((congrFun hσ33 27).trans rfl))))) (h := ?_)
       refine Sg.len (hu := by first | exact Tryz.underlying22 | exact Tryz.underlying26 | exact Tryz.underlying29) (h := ?_)
       refine Sg.ilss (c := true) (hc := iff_of_true (by omega) rfl) (h := ?_)
       first | refine Sg.nl ?_ | refine Sg.nl1 ?_
       refine Sg.ct rfl rfl ?_
       first | refine Sg.sk ?_ | refine Sg.sk1 ?_
       refine Sg.sq ?_
       refine Sg.bl ?_
       have f121 := pw_cell_below (below_step (below_step (below_step b38 b94) b98) b105) hc29
       refine Sg.da (k := 16) (h := fun w119 b120 => ?_)
       refine Sg.dv (i := 0) (hi := rfl) (hy := fun _ => (Sg.Xmv (v := .bool b31) (ho := rfl) (hs := Sg.rs rfl t111))) (h := ?_)
       refine Sg.dv (i := 1) (hi := rfl) (hy := fun _ => (Sg.Xmv (v := .bool b31))) (h := ?_)
       cases b31
       ·skip
        refine Sg.doff (i := 2) (hi := rfl) (hg := rfl) (hw := Sg.yl (d := 302) rfl rfl rfl) (hb := rfl) (h := ?_)
        refine Sg.doff (i := 3) (hi := rfl) (hg := rfl) (hw := Sg.yl (d := 302) rfl rfl rfl) (hb := rfl) (h := ?_)
        refine Sg.doff (i := 4) (hi := rfl) (hg := rfl) (hw := Sg.yl (d := 302) rfl rfl rfl) (hb := rfl) (h := ?_)
        refine Sg.doff (i := 5) (hi := rfl) (hg := rfl) (hw := Sg.yl (d := 302) rfl rfl rfl) (hb := rfl) (h := ?_)
        refine Sg.doff (i := 6) (hi := rfl) (hg := rfl) (hw := Sg.yl (d := 302) rfl rfl rfl) (hb := rfl) (h := ?_)
        refine Sg.doff (i := 7) (hi := rfl) (hg := rfl) (hw := Sg.yl (d := 302) rfl rfl rfl) (hb := rfl) (h := ?_)
        refine Sg.doff (i := 8) (hi := rfl) (hg := rfl) (hw := Sg.yl (d := 302) rfl rfl rfl) (hb := rfl) (h := ?_)
        refine Sg.doff (i := 9) (hi := rfl) (hg := rfl) (hw := Sg.yl (d := 302) rfl rfl rfl) (hb := rfl) (h := ?_)
        refine Sg.doff (i := 10) (hi := rfl) (hg := rfl) (hw := Sg.yl (d := 302) rfl rfl rfl) (hb := rfl) (h := ?_)
        refine Sg.doff (i := 11) (hi := rfl) (hg := rfl) (hw := Sg.yl (d := 302) rfl rfl rfl) (hb := rfl) (h := ?_)
        refine Sg.doff (i := 12) (hi := rfl) (hg := rfl) (hw := Sg.yl (d := 302) rfl rfl rfl) (hb := rfl) (h := ?_)
        refine Sg.doff (i := 13) (hi := rfl) (hg := rfl) (hw := Sg.yl (d := 302) rfl rfl rfl) (hb := rfl) (h := ?_)
        refine Sg.dv (i := 14) (hi := rfl) (hy := fun _ => (Sg.Xpk (v := .bool false))) (h := ?_)
        refine Sg.dv (i := 15) (hi := rfl) (hy := fun _ => (Sg.Xasg (v := .bool false))) (h := ?_)
        first | refine Sg.dend (h := ?_) | refine Sg.dend1 (h := ?_)
        refine Sg.rg ?_
        refine Sg.mv (v := .int .i64 ((1 + j_ : Nat) : Int)) (hs := Sg.rs rfl t110) (h := ?_)
        refine Sg.iadd (c := ((1 + (j_ + 1) : Nat) : Int)) (hc := by unfold wrap64; omega) (h := ?_)
        refine Sg.asg (v := .int .i64 ((1 + (j_ + 1) : Nat) : Int)) (h := ?_)
        first | refine Sg.nl ?_ | refine Sg.nl1 ?_
        exact hK106 _ _ _ hlt_j_ ⟨fun j hj h31_ h32_ => (Sg.un (by omega)).trans ((Sg.un (by omega)).trans ((s104 _ (by omega) (by omega) (by omega)))), t107, t108, t109, rfl, (show Value.bool false = Value.bool (farTo apart s j_ && decide ((wrap64 (rd s ((1 + j_ : Nat) : Int) - rd s ((j_ : Nat) : Int))) ≥ apart)) by rw [← hb31]; rfl), (below_step b105 b120)⟩
       ·skip
        refine Sg.dv (i := 2) (hi := rfl) (hy := fun _ => (Sg.Xmv (v := .slice A26 s.length c27) (ho := rfl) (hs := Sg.rs rfl ((s104 27 (by decide) (by decide) (by decide)).trans ((congrFun hσ100 27).trans ((s37 27 (by decide) (by decide) (by decide)).trans ((congrFun hσ33 27).trans rfl))))))) (hw := Sg.wy (d := 302) rfl rfl rfl) (h := ?_)
        refine Sg.dv (i := 3) (hi := rfl) (hy := fun _ => (Sg.Xmv (v := .int .i64 ((1 + j_ : Nat) : Int)) (ho := rfl) (hs := Sg.rs rfl t110))) (hw := Sg.wy (d := 302) rfl rfl rfl) (h := ?_)
        refine Sg.dv (i := 4) (hi := rfl) (hy := fun _ => (Sg.Xixa (sz := 1) (i := ((1 + j_ : Nat) : Int)) (hu := Tryz.underlying29) (hsz := by kernel_rfl) (h0 := Int.natCast_nonneg _) (h1 := Int.ofNat_lt.2 hltq) (had := by rw [Nat.mul_one]) (ho := rfl) (hx := Sg.rs rfl (congrArg (fun a_ => Value.slice a_ s.length c27) hA114)))) (hw := Sg.wy (d := 302) rfl rfl rfl) (h := ?_)
        refine Sg.dt (i := 5) (hi := rfl) (hb := b120) (hy := fun w_ b_ => (Sg.Xldi (hu := Tryz.underlying3) (hc := pw_cell_below b_ hc115 ))) (hw := Sg.wy (d := 302) rfl rfl rfl) (h := ?_)
        refine Sg.dv (i := 6) (hi := rfl) (hy := fun _ => (Sg.Xmv (v := .slice A26 s.length c27) (ho := rfl) (hs := Sg.rs rfl ((s104 27 (by decide) (by decide) (by decide)).trans ((congrFun hσ100 27).trans ((s37 27 (by decide) (by decide) (by decide)).trans ((congrFun hσ33 27).trans rfl))))))) (hw := Sg.wy (d := 302) rfl rfl rfl) (h := ?_)
        refine Sg.dv (i := 7) (hi := rfl) (hy := fun _ => (Sg.Xmv (v := .int .i64 ((1 + j_ : Nat) : Int)) (ho := rfl) (hs := Sg.rs rfl t110))) (hw := Sg.wy (d := 302) rfl rfl rfl) (h := ?_)
        refine Sg.dv (i := 8) (hi := rfl) (hy := fun _ => (Sg.Xbin (v3 := .int .i64 ((j_ : Nat) : Int)) (hv := Sg.Isub (by unfold wrap64; omega)))) (hw := Sg.wy (d := 302) rfl rfl rfl) (h := ?_)
        refine Sg.dv (i := 9) (hi := rfl) (hy := fun _ => (Sg.Xixa (sz := 1) (i := ((j_ : Nat) : Int)) (hu := Tryz.underlying29) (hsz := by kernel_rfl) (h0 := Int.natCast_nonneg _) (h1 := Int.ofNat_lt.2 (show j_ < s.length by omega)) (had := by rw [Nat.mul_one]) (ho := rfl) (hx := Sg.rs rfl (congrArg (fun a_ => Value.slice a_ s.length c27) hA117)))) (hw := Sg.wy (d := 302) rfl rfl rfl) (h := ?_)
        refine Sg.dt (i := 10) (hi := rfl) (hb := b120) (hy := fun w_ b_ => (Sg.Xldi (hu := Tryz.underlying3) (hc := pw_cell_below b_ hc118 ))) (hw := Sg.wy (d := 302) rfl rfl rfl) (h := ?_)
        refine Sg.dv (i := 11) (hi := rfl) (hy := fun _ => (Sg.Xbin (v3 := .int .i64 (wrap64 (rd s ((1 + j_ : Nat) : Int) - rd s ((j_ : Nat) : Int)))) (hv := Sg.Isub rfl))) (hw := Sg.wy (d := 302) rfl rfl rfl) (h := ?_)
        refine Sg.dv (i := 12) (hi := rfl) (hy := fun _ => (Sg.Xmv (v := .int .i64 apart) (ho := rfl) (hs := Sg.rs rfl ((s104 7 (by decide) (by decide) (by decide)).trans ((congrFun hσ100 7).trans ((s37 7 (by decide) (by decide) (by decide)).trans ((congrFun hσ33 7).trans ((s18 7 (by decide) (by decide) (by decide) (by decide) (by decide) (by decide) (by decide)).trans ((congrFun hσ14 7).trans h7))))))))) (hw := Sg.wy (d := 302) rfl rfl rfl) (h := ?_)
        refine Sg.dv (i := 13) (hi := rfl) (hy := fun _ => (Sg.Xbin (v3 := .bool (decide ((wrap64 (rd s ((1 + j_ : Nat) : Int) - rd s ((j_ : Nat) : Int))) ≥ apart))) (hv := Sg.Igeq (by rw [decide_eq_true_iff])))) (hw := Sg.wy (d := 302) rfl rfl rfl) (h := ?_)
        refine Sg.dv (i := 14) (hi := rfl) (hy := fun _ => (Sg.Xpk (v := .bool (decide ((wrap64 (rd s ((1 + j_ : Nat) : Int) - rd s ((j_ : Nat) : Int))) ≥ apart))))) (h := ?_)
        refine Sg.dv (i := 15) (hi := rfl) (hy := fun _ => (Sg.Xasg (v := .bool (decide ((wrap64 (rd s ((1 + j_ : Nat) : Int) - rd s ((j_ : Nat) : Int))) ≥ apart))))) (h := ?_)
        first | refine Sg.dend (h := ?_) | refine Sg.dend1 (h := ?_)
        refine Sg.rg ?_
        refine Sg.mv (v := .int .i64 ((1 + j_ : Nat) : Int)) (hs := Sg.rs rfl t110) (h := ?_)
        refine Sg.iadd (c := ((1 + (j_ + 1) : Nat) : Int)) (hc := by unfold wrap64; omega) (h := ?_)
        refine Sg.asg (v := .int .i64 ((1 + (j_ + 1) : Nat) : Int)) (h := ?_)
        first | refine Sg.nl ?_ | refine Sg.nl1 ?_
        exact hK106 _ _ _ hlt_j_ ⟨fun j hj h31_ h32_ => (Sg.un (by omega)).trans ((Sg.un (by omega)).trans ((s104 _ (by omega) (by omega) (by omega)))), t107, t108, t109, rfl, (show Value.bool (decide ((wrap64 (rd s ((1 + j_ : Nat) : Int) - rd s ((j_ : Nat) : Int))) ≥ apart)) = Value.bool (farTo apart s j_ && decide ((wrap64 (rd s ((1 + j_ : Nat) : Int) - rd s ((j_ : Nat) : Int))) ≥ apart)) by rw [← hb31]; rfl), (below_step b105 b120)⟩
      ·skip
       have h122 : s.length - 1 = j_ := by omega
       subst h122
       refine Sg.sq ?_
       refine Sg.sq ?_
       refine Sg.rg ?_
       refine Sg.mv (v := .int .i64 ((1 + (s.length - 1) : Nat) : Int)) (hs := Sg.rs rfl t110) (h := ?_)
       refine Sg.mv (v := .slice A26 s.length c27) (hs := Sg.rs rfl ((s104 27 (by decide) (by decide) (by decide)).trans ((congrFun hσ100 27).trans ((s37 27 (by decide) (by decide) (by decide)).trans ((congrFun hσ33 27).trans rfl))))) (h := ?_)
       refine Sg.len (hu := by first | exact Tryz.underlying22 | exact Tryz.underlying26 | exact Tryz.underlying29) (h := ?_)
       refine Sg.ilss (c := false) (hc := iff_of_false (by omega) Bool.false_ne_true) (h := ?_)
       first | refine Sg.nl ?_ | refine Sg.nl1 ?_
       refine Sg.cf rfl rfl ?_
       refine Sg.ex0 ?_
       refine Sg.sq ?_
       refine Sg.rg ?_
       refine Sg.mv (v := .int .i64 ((i : Nat) : Int)) (hs := Sg.rs rfl ((s104 26 (by decide) (by decide) (by decide)).trans ((congrFun hσ100 26).trans ((s37 26 (by decide) (by decide) (by decide)).trans ((congrFun hσ33 26).trans rfl))))) (h := ?_)
       refine Sg.ilss (c := false) (hc := iff_of_false hi40 Bool.false_ne_true) (h := ?_)
       refine Sg.mv (v := .bool false) (h := ?_)
       refine Sg.off (hw := Sg.yl (d := 318) rfl rfl rfl) (hb := rfl) (h := ?_)
       refine Sg.off (hw := Sg.yl (d := 318) rfl rfl rfl) (hb := rfl) (h := ?_)
       refine Sg.off (hw := Sg.yl (d := 318) rfl rfl rfl) (hb := rfl) (h := ?_)
       refine Sg.off (hw := Sg.yl (d := 318) rfl rfl rfl) (hb := rfl) (h := ?_)
       refine Sg.off (hw := Sg.yl (d := 318) rfl rfl rfl) (hb := rfl) (h := ?_)
       refine Sg.pk (v := .bool false) (h := ?_)
       first | refine Sg.nl ?_ | refine Sg.nl1 ?_
       refine Sg.cf rfl rfl ?_
       first | refine Sg.sk ?_ | refine Sg.sk1 ?_
       refine Sg.rg ?_
       refine Sg.iadd (c := ((i + 1 : Nat) : Int)) (hx := Sg.rs rfl t109) (hc := by unfold wrap64; omega) (h := ?_)
       refine Sg.mv (v := .int .i64 ((i + 1 : Nat) : Int)) (h := ?_)
       first | refine Sg.nl ?_ | refine Sg.nl1 ?_
       exact hK20 _ _ _ hlt_i ⟨fun j hj h26_ h27_ h28_ h30_ h31_ h32_ => (s104 _ (by omega) (by omega) (by omega)).trans ((congrFun hσ100 _).trans ((Sg.un (by omega)).trans ((Sg.un (by omega)).trans ((s37 _ (by omega) (by omega) (by omega)).trans ((congrFun hσ33 _).trans ((Sg.un (by omega)).trans ((Sg.un (by omega)).trans ((Sg.un (by omega)).trans ((s18 _ (by omega) (by omega) (by omega) (by omega) (by omega) (by omega) (by omega))))))))))), t107, t108, rfl, (below_step (below_step (below_step (below_step b19 b38) b94) b98) b105)⟩
   ·skip
    have h123 : all.length = i := by omega
    subst h123
    refine Sg.sq ?_
    refine Sg.rg ?_
    refine Sg.ilss (c := false) (hx := Sg.rs rfl t23) (hy := Sg.rs rfl t22) (h := ?_)
    first | refine Sg.nl ?_ | refine Sg.nl1 ?_
    refine Sg.sq ?_
    refine Sg.cf rfl rfl ?_
    refine Sg.ex0 ?_
    exact hK _ _ _ (fun j hj => (s18 _ (by omega) (by omega) (by omega) (by omega) (by omega) (by omega) (by omega)).trans ((congrFun hσ14 _).trans ((Sg.un (by omega)).trans ((Sg.un (by omega)))))) (below_step (below_step b2 b11) b19)
theorem g4pF (k : Nat) (A1 : Option Addr) (c1 : Nat) (l1 : List Int) (set_ : List Int) (next : List Int) (seven : Bool) (u : List Int) (years : Int) (later : List Int) (nine : Bool) (c : Int) (from_ : Int) (to_ : Int) (at_ : Int) (most : Int) (eleven : Bool) (σ τ : Sg.Fr) (w : World) {rest : Code} {Q : Exit → Act → World → Prop} (h1 : σ 1 = .slice A1 l1.length c1) (hC1 : Kd.C (Kd.int .u8) w A1 l1.length l1) (hc1 : l1.length ≤ c1)
    (hD2 : spec_DrawNextSet.f k l1 = some set_) (hNI : impl_NextSet.f k set_ = some (next, seven)) (hNS : spec_NextSet.f k set_ = some (next, seven)) (hD3 : spec_DrawLaterSet.f k l1 = some (u, years)) (hLI : impl_LaterSet.f k u years = some (later, nine)) (hLS : spec_LaterSet.f k u years = some (later, nine)) (hD4 : spec_DrawMostSets.f l1 = some (c, from_, to_)) (hMI : impl_MostSets.f c from_ to_ = some (at_, most, eleven)) (hMS : spec_MostSets.f k c from_ to_ = some (at_, most, eleven)) (hW3 : laws_qSame.f k next next = some true) (hW4 : laws_qSame.f k later later = some true)
    (hK : ∀ σ' τ' w', g4St2 set_ next seven u years later nine c from_ to_ at_ most eleven σ' w' → Below w.heap.size w w' → rest.wp Tryz.prog Q (Sg.fr 556 (Sg.mix 61 σ' τ')) w') :
    (Code.seq (g4S 14) (Code.seq (g4S 15) (Code.seq (g4S 16) (Code.seq (g4S 17) (Code.seq (g4S 18) (Code.seq (g4S 19) (Code.seq (g4S 20) (Code.seq (g4S 21) (Code.seq (g4S 22) (Code.seq (g4S 23) rest)))))))))).wp Tryz.prog Q (Sg.fr 556 (Sg.mix 61 σ τ)) w := by
  refine Sg.sq ?_
  refine Sg.rg ?_
  refine Sg.mv (v := .slice A1 l1.length c1) (hs := Sg.rs rfl h1) (h := ?_)
  refine Sg.cl (args := #[.slice A1 l1.length c1]) (hf := Tryz.func22) (hargs := Sg.a1 (Sg.rs rfl rfl)) (h := ?_)
  refine (spec_DrawNextSet.calls k A1 c1 l1 set_ _ hC1 hc1 hD2).mono ?_
  rintro _ w1 ⟨v3, rfl, r4, b2⟩
  obtain ⟨A5, c6, rfl, f8, f7⟩ := Kd.R_reads r4
  refine ⟨_, _, rfl, (Sg.ps rfl), ?_⟩
  refine Sg.asg (v := .slice A5 set_.length c6) (h := ?_)
  first | refine Sg.nl ?_ | refine Sg.nl1 ?_
  refine Sg.gn fun τ1 => ?_
  refine Sg.sq ?_
  refine Sg.rg ?_
  refine Sg.mv (v := .slice A5 set_.length c6) (h := ?_)
  refine Sg.cl (args := #[.slice A5 set_.length c6]) (hf := Tryz.func23) (hargs := Sg.a1 (Sg.rs rfl rfl)) (h := ?_)
  refine (impl_NextSet.calls k A5 c6 set_ next seven _ f7 f8 hNI).mono ?_
  rintro _ w9 ⟨v11, rfl, r12, b10⟩
  obtain ⟨A13, c14, rfl, f16, f15⟩ := Kd.R_reads r12
  refine ⟨_, _, rfl, (Sg.ps rfl), ?_⟩
  refine Sg.mv (v := .tuple #[.slice A13 next.length c14, .bool seven]) (h := ?_)
  refine Sg.ext (v := .slice A13 next.length c14) (h := ?_)
  refine Sg.ext (v := .bool seven) (h := ?_)
  refine Sg.asg (v := .slice A13 next.length c14) (h := ?_)
  refine Sg.asg (v := .bool seven) (h := ?_)
  first | refine Sg.nl ?_ | refine Sg.nl1 ?_
  refine Sg.gn fun τ2 => ?_
  refine Sg.sq ?_
  refine Sg.rg ?_
  refine Sg.mv (v := .slice A5 set_.length c6) (h := ?_)
  refine Sg.cl (args := #[.slice A5 set_.length c6]) (hf := Tryz.func24) (hargs := Sg.a1 (Sg.rs rfl rfl)) (h := ?_)
  have f17 := Kd.C_below f7 b10
  refine (spec_NextSet.calls k A5 c6 set_ next seven _ f17 f8 hNS).mono ?_
  rintro _ w18 ⟨v20, rfl, r21, b19⟩
  obtain ⟨A22, c23, rfl, f25, f24⟩ := Kd.R_reads r21
  refine ⟨_, _, rfl, (Sg.ps rfl), ?_⟩
  refine Sg.mv (v := .tuple #[.slice A22 next.length c23, .bool seven]) (h := ?_)
  refine Sg.ext (v := .slice A22 next.length c23) (h := ?_)
  refine Sg.ext (v := .bool seven) (h := ?_)
  refine Sg.asg (v := .slice A22 next.length c23) (h := ?_)
  refine Sg.asg (v := .bool seven) (h := ?_)
  first | refine Sg.nl ?_ | refine Sg.nl1 ?_
  refine Sg.gn fun τ3 => ?_
  refine Sg.sq ?_
  refine Sg.rg ?_
  refine Sg.mv (v := .slice A1 l1.length c1) (hs := Sg.rs rfl h1) (h := ?_)
  refine Sg.cl (args := #[.slice A1 l1.length c1]) (hf := Tryz.func25) (hargs := Sg.a1 (Sg.rs rfl rfl)) (h := ?_)
  have f26 := Kd.C_below hC1 (below_step (below_step b2 b10) b19)
  refine (spec_DrawLaterSet.calls k A1 c1 l1 u years _ f26 hc1 hD3).mono ?_
  rintro _ w27 ⟨v29, rfl, r30, b28⟩
  obtain ⟨A31, c32, rfl, f34, f33⟩ := Kd.R_reads r30
  refine ⟨_, _, rfl, (Sg.ps rfl), ?_⟩
  refine Sg.mv (v := .tuple #[.slice A31 u.length c32, .int .i64 years]) (h := ?_)
  refine Sg.ext (v := .slice A31 u.length c32) (h := ?_)
  refine Sg.ext (v := .int .i64 years) (h := ?_)
  refine Sg.asg (v := .slice A31 u.length c32) (h := ?_)
  refine Sg.asg (v := .int .i64 years) (h := ?_)
  first | refine Sg.nl ?_ | refine Sg.nl1 ?_
  refine Sg.gn fun τ4 => ?_
  refine Sg.sq ?_
  refine Sg.rg ?_
  refine Sg.mv (v := .slice A31 u.length c32) (h := ?_)
  refine Sg.mv (v := .int .i64 years) (h := ?_)
  refine Sg.cl (args := #[.slice A31 u.length c32, .int .i64 years]) (hf := Tryz.func26) (hargs := Sg.a2 (Sg.rs rfl rfl) (Sg.rs rfl rfl)) (h := ?_)
  refine (impl_LaterSet.calls k A31 c32 u years later nine _ f33 f34 hLI).mono ?_
  rintro _ w35 ⟨v37, rfl, r38, b36⟩
  obtain ⟨A39, c40, rfl, f42, f41⟩ := Kd.R_reads r38
  refine ⟨_, _, rfl, (Sg.ps rfl), ?_⟩
  refine Sg.mv (v := .tuple #[.slice A39 later.length c40, .bool nine]) (h := ?_)
  refine Sg.ext (v := .slice A39 later.length c40) (h := ?_)
  refine Sg.ext (v := .bool nine) (h := ?_)
  refine Sg.asg (v := .slice A39 later.length c40) (h := ?_)
  refine Sg.asg (v := .bool nine) (h := ?_)
  first | refine Sg.nl ?_ | refine Sg.nl1 ?_
  refine Sg.gn fun τ5 => ?_
  refine Sg.sq ?_
  refine Sg.rg ?_
  refine Sg.mv (v := .slice A31 u.length c32) (h := ?_)
  refine Sg.mv (v := .int .i64 years) (h := ?_)
  refine Sg.cl (args := #[.slice A31 u.length c32, .int .i64 years]) (hf := Tryz.func27) (hargs := Sg.a2 (Sg.rs rfl rfl) (Sg.rs rfl rfl)) (h := ?_)
  have f43 := Kd.C_below f33 b36
  refine (spec_LaterSet.calls k A31 c32 u years later nine _ f43 f34 hLS).mono ?_
  rintro _ w44 ⟨v46, rfl, r47, b45⟩
  obtain ⟨A48, c49, rfl, f51, f50⟩ := Kd.R_reads r47
  refine ⟨_, _, rfl, (Sg.ps rfl), ?_⟩
  refine Sg.mv (v := .tuple #[.slice A48 later.length c49, .bool nine]) (h := ?_)
  refine Sg.ext (v := .slice A48 later.length c49) (h := ?_)
  refine Sg.ext (v := .bool nine) (h := ?_)
  refine Sg.asg (v := .slice A48 later.length c49) (h := ?_)
  refine Sg.asg (v := .bool nine) (h := ?_)
  first | refine Sg.nl ?_ | refine Sg.nl1 ?_
  refine Sg.gn fun τ6 => ?_
  refine Sg.sq ?_
  refine Sg.rg ?_
  refine Sg.mv (v := .slice A1 l1.length c1) (hs := Sg.rs rfl h1) (h := ?_)
  refine Sg.cl (args := #[.slice A1 l1.length c1]) (hf := Tryz.func28) (hargs := Sg.a1 (Sg.rs rfl rfl)) (h := ?_)
  have f52 := Kd.C_below f26 (below_step (below_step b28 b36) b45)
  refine (spec_DrawMostSets.calls A1 c1 l1 c from_ to_ _ f52 hc1 hD4).mono ?_
  rintro _ w53 ⟨rfl, b54⟩
  refine ⟨_, _, rfl, (Sg.ps rfl), ?_⟩
  refine Sg.mv (v := .tuple #[.int .i64 c, .int .i64 from_, .int .i64 to_]) (h := ?_)
  refine Sg.ext (v := .int .i64 c) (h := ?_)
  refine Sg.ext (v := .int .i64 from_) (h := ?_)
  refine Sg.ext (v := .int .i64 to_) (h := ?_)
  refine Sg.asg (v := .int .i64 c) (h := ?_)
  refine Sg.asg (v := .int .i64 from_) (h := ?_)
  refine Sg.asg (v := .int .i64 to_) (h := ?_)
  first | refine Sg.nl ?_ | refine Sg.nl1 ?_
  refine Sg.gn fun τ7 => ?_
  refine Sg.sq ?_
  refine Sg.rg ?_
  refine Sg.mv (v := .int .i64 c) (h := ?_)
  refine Sg.mv (v := .int .i64 from_) (h := ?_)
  refine Sg.mv (v := .int .i64 to_) (h := ?_)
  refine Sg.cl (args := #[.int .i64 c, .int .i64 from_, .int .i64 to_]) (hf := Tryz.func29) (hargs := Sg.a3 (Sg.rs rfl rfl) (Sg.rs rfl rfl) (Sg.rs rfl rfl)) (h := ?_)
  refine (impl_MostSets.calls c from_ to_ at_ most eleven _ hMI).mono ?_
  rintro _ w55 ⟨rfl, b56⟩
  refine ⟨_, _, rfl, (Sg.ps rfl), ?_⟩
  refine Sg.mv (v := .tuple #[.int .i64 at_, .int .i64 most, .bool eleven]) (h := ?_)
  refine Sg.ext (v := .int .i64 at_) (h := ?_)
  refine Sg.ext (v := .int .i64 most) (h := ?_)
  refine Sg.ext (v := .bool eleven) (h := ?_)
  refine Sg.asg (v := .int .i64 at_) (h := ?_)
  refine Sg.asg (v := .int .i64 most) (h := ?_)
  refine Sg.asg (v := .bool eleven) (h := ?_)
  first | refine Sg.nl ?_ | refine Sg.nl1 ?_
  refine Sg.gn fun τ8 => ?_
  refine Sg.sq ?_
  refine Sg.rg ?_
  refine Sg.mv (v := .int .i64 c) (h := ?_)
  refine Sg.mv (v := .int .i64 from_) (h := ?_)
  refine Sg.mv (v := .int .i64 to_) (h := ?_)
  refine Sg.cl (args := #[.int .i64 c, .int .i64 from_, .int .i64 to_]) (hf := Tryz.func30) (hargs := Sg.a3 (Sg.rs rfl rfl) (Sg.rs rfl rfl) (Sg.rs rfl rfl)) (h := ?_)
  refine (spec_MostSets.calls k c from_ to_ at_ most eleven _ hMS).mono ?_
  rintro _ w57 ⟨rfl, b58⟩
  refine ⟨_, _, rfl, (Sg.ps rfl), ?_⟩
  refine Sg.mv (v := .tuple #[.int .i64 at_, .int .i64 most, .bool eleven]) (h := ?_)
  refine Sg.ext (v := .int .i64 at_) (h := ?_)
  refine Sg.ext (v := .int .i64 most) (h := ?_)
  refine Sg.ext (v := .bool eleven) (h := ?_)
  refine Sg.asg (v := .int .i64 at_) (h := ?_)
  refine Sg.asg (v := .int .i64 most) (h := ?_)
  refine Sg.asg (v := .bool eleven) (h := ?_)
  first | refine Sg.nl ?_ | refine Sg.nl1 ?_
  refine Sg.gn fun τ9 => ?_
  refine Sg.sq ?_
  refine Sg.sq ?_
  refine Sg.rg ?_
  refine Sg.mv (v := .bool seven) (h := ?_)
  refine Sg.mv (v := .bool seven) (h := ?_)
  refine Sg.bneq (c := false) (hu := Tryz.underlying4) (h := ?_)
  refine Sg.mv (v := .bool false) (h := ?_)
  refine Sg.mv (v := .slice A13 next.length c14) (hw := Sg.wy (d := 380) rfl rfl rfl) (h := ?_)
  refine Sg.mv (v := .slice A22 next.length c23) (hw := Sg.wy (d := 380) rfl rfl rfl) (h := ?_)
  refine Sg.cl (args := #[.slice A13 next.length c14, .slice A22 next.length c23]) (hf := Tryz.func15) (hw := Sg.wy (d := 380) rfl rfl rfl) (hargs := Sg.a2 (Sg.rs rfl rfl) (Sg.rs rfl rfl)) (h := ?_)
  have f59 := Kd.C_below f15 (below_step (below_step (below_step (below_step (below_step (below_step b19 b28) b36) b45) b54) b56) b58)
  have f60 := Kd.C_below f24 (below_step (below_step (below_step (below_step (below_step b28 b36) b45) b54) b56) b58)
  refine (laws_qSame.calls k A13 c14 next A22 c23 next true _ f59 f16 f60 f25 hW3).mono ?_
  rintro _ w61 ⟨rfl, d63⟩
  have b62 := d63.below
  refine ⟨_, _, rfl, (Sg.ps rfl), ?_⟩
  refine Sg.nt (b := true) (hw := Sg.wy (d := 380) rfl rfl rfl) (h := ?_)
  refine Sg.pk (v := .bool false) (h := ?_)
  refine Sg.mv (v := .bool false) (h := ?_)
  refine Sg.mv (v := .bool nine) (hw := Sg.wy (d := 386) rfl rfl rfl) (h := ?_)
  refine Sg.mv (v := .bool nine) (hw := Sg.wy (d := 386) rfl rfl rfl) (h := ?_)
  refine Sg.bneq (c := false) (hu := Tryz.underlying4) (hw := Sg.wy (d := 386) rfl rfl rfl) (h := ?_)
  refine Sg.pk (v := .bool false) (h := ?_)
  refine Sg.mv (v := .bool false) (h := ?_)
  refine Sg.mv (v := .slice A39 later.length c40) (hw := Sg.wy (d := 391) rfl rfl rfl) (h := ?_)
  refine Sg.mv (v := .slice A48 later.length c49) (hw := Sg.wy (d := 391) rfl rfl rfl) (h := ?_)
  refine Sg.cl (args := #[.slice A39 later.length c40, .slice A48 later.length c49]) (hf := Tryz.func15) (hw := Sg.wy (d := 391) rfl rfl rfl) (hargs := Sg.a2 (Sg.rs rfl rfl) (Sg.rs rfl rfl)) (h := ?_)
  have f64 := Kd.C_below f41 (below_step (below_step (below_step (below_step b45 b54) b56) b58) b62)
  have f65 := Kd.C_below f50 (below_step (below_step (below_step b54 b56) b58) b62)
  refine (laws_qSame.calls k A39 c40 later A48 c49 later true _ f64 f42 f65 f51 hW4).mono ?_
  rintro _ w66 ⟨rfl, d68⟩
  have b67 := d68.below
  refine ⟨_, _, rfl, (Sg.ps rfl), ?_⟩
  refine Sg.nt (b := true) (hw := Sg.wy (d := 391) rfl rfl rfl) (h := ?_)
  refine Sg.pk (v := .bool false) (h := ?_)
  refine Sg.mv (v := .bool false) (h := ?_)
  refine Sg.mv (v := .bool eleven) (hw := Sg.wy (d := 397) rfl rfl rfl) (h := ?_)
  refine Sg.mv (v := .bool eleven) (hw := Sg.wy (d := 397) rfl rfl rfl) (h := ?_)
  refine Sg.bneq (c := false) (hu := Tryz.underlying4) (hw := Sg.wy (d := 397) rfl rfl rfl) (h := ?_)
  refine Sg.pk (v := .bool false) (h := ?_)
  refine Sg.mv (v := .bool false) (h := ?_)
  refine Sg.mv (v := .int .i64 at_) (hw := Sg.wy (d := 402) rfl rfl rfl) (h := ?_)
  refine Sg.mv (v := .int .i64 at_) (hw := Sg.wy (d := 402) rfl rfl rfl) (h := ?_)
  refine Sg.ineq (c := false) (hw := Sg.wy (d := 402) rfl rfl rfl) (h := ?_)
  refine Sg.pk (v := .bool false) (h := ?_)
  refine Sg.mv (v := .bool false) (h := ?_)
  refine Sg.mv (v := .int .i64 most) (hw := Sg.wy (d := 407) rfl rfl rfl) (h := ?_)
  refine Sg.mv (v := .int .i64 most) (hw := Sg.wy (d := 407) rfl rfl rfl) (h := ?_)
  refine Sg.ineq (c := false) (hw := Sg.wy (d := 407) rfl rfl rfl) (h := ?_)
  refine Sg.pk (v := .bool false) (h := ?_)
  first | refine Sg.nl ?_ | refine Sg.nl1 ?_
  refine Sg.cf rfl rfl ?_
  first | refine Sg.sk ?_ | refine Sg.sk1 ?_
  refine Sg.gn fun τ10 => ?_
  have f69 := Kd.C_below f17 (below_step (below_step (below_step (below_step (below_step (below_step (below_step (below_step b19 b28) b36) b45) b54) b56) b58) b62) b67)
  have f70 := Kd.C_below f59 (below_step b62 b67)
  have f71 := Kd.C_below f43 (below_step (below_step (below_step (below_step (below_step b45 b54) b56) b58) b62) b67)
  have f72 := Kd.C_below f64 b67
  exact hK _ _ _ ⟨A5, c6, A13, c14, A31, c32, A39, c40, ⟨rfl, rfl, rfl, rfl, rfl, rfl, rfl, rfl, rfl, rfl, rfl, rfl, rfl⟩, ⟨f69, f8⟩, ⟨f70, f16⟩, ⟨f71, f34⟩, ⟨f72, f42⟩⟩ (below_step (below_step (below_step (below_step (below_step (below_step (below_step (below_step (below_step (below_step b2 b10) b19) b28) b36) b45) b54) b56) b58) b62) b67)
theorem g4pH (k : Nat) (set_ : List Int) (next : List Int) (seven : Bool) (u : List Int) (years : Int) (later : List Int) (nine : Bool) (c : Int) (from_ : Int) (to_ : Int) (at_ : Int) (most : Int) (eleven : Bool) (σ τ : Sg.Fr) (w : World) {rest : Code} {Q : Exit → Act → World → Prop} (hQp : ∀ c (a : Act) d v w, Q (.panic c) (a.put d v) w → Q (.panic c) a w) (hSt : g4St2 set_ next seven u years later nine c from_ to_ at_ most eleven σ w)
    (h7 : seven = true → impl_IsSet.f k next = some true ∧ next.length = set_.length ∧ laws_qBefore.f k set_ next = some true ∧ set_.length ≤ 4 ∧ ∃ m p : Nat, p + m + 1 = set_.length ∧ (∀ i : Nat, i < m → rd set_ ((set_.length - 1 - i : Nat) : Int) = 20) ∧ rd set_ ((p : Nat) : Int) ≠ 20 ∧
      laws_qSame.f k (next.take p) (set_.take p) = some true ∧ wrap64 (rd set_ ((p : Nat) : Int) + 1) = rd next ((p : Nat) : Int) ∧ rd next ((next.length - 1 : Nat) : Int) = rd next ((p : Nat) : Int))
    (hK : ∀ σ' τ' w', (∀ j, j < 53 → σ' j = σ j) → Below w.heap.size w w' → rest.wp Tryz.prog Q (Sg.fr 556 (Sg.mix 61 σ' τ')) w') :
    (Code.seq (g4S 24) rest).wp Tryz.prog Q (Sg.fr 556 (Sg.mix 61 σ τ)) w := by
  obtain ⟨A33, c33, A34, c34, A38, c38, A40, c40, ⟨h33, h34, h35, h38, h39, h40, h41, h44, h45, h46, h47, h48, h49⟩, ⟨q33, p33⟩, ⟨q34, p34⟩, ⟨q38, p38⟩, ⟨q40, p40⟩⟩ := hSt
  refine Sg.sq ?_
  refine Sg.sq ?_
  refine Sg.rg ?_
  refine Sg.mv (v := .bool seven) (hs := Sg.rs rfl h35) (h := ?_)
  first | refine Sg.nl ?_ | refine Sg.nl1 ?_
  cases seven
  ·skip
   refine Sg.cf rfl rfl ?_
   first | refine Sg.sk ?_ | refine Sg.sk1 ?_
   exact hK _ _ _ (fun j hj => rfl) (Below.refl _ _)
  ·skip
   obtain ⟨e1, e2, e3, e4, m, p, e5, e6, e7, e8, e9, e10⟩ := h7 rfl
   refine Sg.ct rfl rfl ?_
   refine Sg.sq ?_
   refine Sg.sq ?_
   refine Sg.rg ?_
   refine Sg.mv (v := .slice A34 next.length c34) (hs := Sg.rs rfl h34) (h := ?_)
   refine Sg.cl (args := #[.slice A34 next.length c34]) (hf := Tryz.func19) (hargs := Sg.a1 (Sg.rs rfl rfl)) (h := ?_)
   refine (impl_IsSet.calls k A34 c34 next true _ q34 p34 e1).mono ?_
   rintro _ w1 ⟨rfl, b2⟩
   refine ⟨_, _, rfl, (Sg.ps rfl), ?_⟩
   refine Sg.nt (b := true) (h := ?_)
   refine Sg.mv (v := .bool false) (h := ?_)
   refine Sg.mv (v := .slice A34 next.length c34) (hw := Sg.wy (d := 416) rfl rfl rfl) (hs := Sg.rs rfl h34) (h := ?_)
   refine Sg.len (hu := by first | exact Tryz.underlying22 | exact Tryz.underlying26 | exact Tryz.underlying29) (hw := Sg.wy (d := 416) rfl rfl rfl) (h := ?_)
   refine Sg.mv (v := .slice A33 set_.length c33) (hw := Sg.wy (d := 416) rfl rfl rfl) (hs := Sg.rs rfl h33) (h := ?_)
   refine Sg.len (hu := by first | exact Tryz.underlying22 | exact Tryz.underlying26 | exact Tryz.underlying29) (hw := Sg.wy (d := 416) rfl rfl rfl) (h := ?_)
   refine Sg.ineq (c := false) (hw := Sg.wy (d := 416) rfl rfl rfl) (hc := iff_of_false (by omega) Bool.false_ne_true) (h := ?_)
   refine Sg.pk (v := .bool false) (h := ?_)
   refine Sg.mv (v := .bool false) (h := ?_)
   refine Sg.mv (v := .slice A33 set_.length c33) (hw := Sg.wy (d := 423) rfl rfl rfl) (hs := Sg.rs rfl h33) (h := ?_)
   refine Sg.mv (v := .slice A34 next.length c34) (hw := Sg.wy (d := 423) rfl rfl rfl) (hs := Sg.rs rfl h34) (h := ?_)
   refine Sg.cl (args := #[.slice A33 set_.length c33, .slice A34 next.length c34]) (hf := Tryz.func31) (hw := Sg.wy (d := 423) rfl rfl rfl) (hargs := Sg.a2 (Sg.rs rfl rfl) (Sg.rs rfl rfl)) (h := ?_)
   have f3 := Kd.C_below q33 b2
   have f4 := Kd.C_below q34 b2
   refine (laws_qBefore.calls k A33 c33 set_ A34 c34 next true _ f3 p33 f4 p34 e3).mono ?_
   rintro _ w5 ⟨rfl, d7⟩
   have b6 := d7.below
   refine ⟨_, _, rfl, (Sg.ps rfl), ?_⟩
   refine Sg.nt (b := true) (hw := Sg.wy (d := 423) rfl rfl rfl) (h := ?_)
   refine Sg.pk (v := .bool false) (h := ?_)
   first | refine Sg.nl ?_ | refine Sg.nl1 ?_
   refine Sg.cf rfl rfl ?_
   first | refine Sg.sk ?_ | refine Sg.sk1 ?_
   refine Sg.sq ?_
   refine Sg.rg ?_
   refine Sg.mv (v := .slice A33 set_.length c33) (hs := Sg.rs rfl h33) (h := ?_)
   refine Sg.len (hu := by first | exact Tryz.underlying22 | exact Tryz.underlying26 | exact Tryz.underlying29) (h := ?_)
   refine Sg.isub (c := ((set_.length - 1 : Nat) : Int)) (hc := by unfold wrap64; omega) (h := ?_)
   refine Sg.asg (v := .int .i64 ((set_.length - 1 : Nat) : Int)) (h := ?_)
   first | refine Sg.nl ?_ | refine Sg.nl1 ?_
   refine Sg.sq ?_
   refine Sg.gs fun σ8 hσ9 => ?_
   refine Sg.bl ?_
   refine Sg.lp (m) (fun i σ' τ' w' => (∀ j, j < 61 → j ≠ 53 → σ' j = σ8 j) ∧ σ' 53 = .int .i64 ((set_.length - 1 - i : Nat) : Int) ∧ Below w5.heap.size w5 w') 0 (Nat.zero_le _) ⟨fun _ _ _ => rfl, ((congrFun hσ9 53).trans rfl), Below.refl _ _⟩ ?_
   rintro i σ10 τ11 w12 hi_i ⟨s13, t16, b14⟩ K15 hK15
   by_cases hlt_i : i < m
   ·skip
    have g1 := e6 i hlt_i
    have f17 := Kd.C_below f3 (below_step b6 b14)
    obtain ⟨ad18, hA19, hc20⟩ := Kd.at_int f17 ((set_.length - 1 - i : Nat) : Int) (Int.natCast_nonneg _) (Int.ofNat_lt.2 (by omega))
    rw [g1] at hc20
    refine Sg.sq ?_
    refine Sg.sq ?_
    refine Sg.rg ?_
    refine Sg.mv (v := .int .i64 ((set_.length - 1 - i : Nat) : Int)) (hs := Sg.rs rfl t16) (h := ?_)
    refine Sg.igeq (c := true) (hc := iff_of_true (by omega) rfl) (h := ?_)
    refine Sg.mv (v := .bool true) (h := ?_)
    refine Sg.mv (v := .slice A33 set_.length c33) (hw := Sg.wy (d := 434) rfl rfl rfl) (hs := Sg.rs rfl ((s13 33 (by decide) (by decide)).trans ((congrFun hσ9 33).trans h33))) (h := ?_)
    refine Sg.mv (v := .int .i64 ((set_.length - 1 - i : Nat) : Int)) (hw := Sg.wy (d := 434) rfl rfl rfl) (hs := Sg.rs rfl t16) (h := ?_)
    refine Sg.yy (hy := Sg.Xixa (sz := 1) (i := ((set_.length - 1 - i : Nat) : Int)) (hu := Tryz.underlying29) (hsz := by kernel_rfl) (h0 := Int.natCast_nonneg _) (h1 := Int.ofNat_lt.2 (by omega)) (had := by rw [Nat.mul_one]) (ho := rfl) (hx := Sg.rs rfl (congrArg (fun a_ => Value.slice a_ set_.length c33) hA19))) (hw := Sg.wy (d := 434) rfl rfl rfl) (h := ?_)
    refine Sg.yy (hy := Sg.Xldi (hu := Tryz.underlying3) (hc := hc20)) (hw := Sg.wy (d := 434) rfl rfl rfl) (h := ?_)
    refine Sg.ieql (c := true) (hw := Sg.wy (d := 434) rfl rfl rfl) (h := ?_)
    refine Sg.pk (v := .bool true) (h := ?_)
    first | refine Sg.nl ?_ | refine Sg.nl1 ?_
    refine Sg.ct rfl rfl ?_
    first | refine Sg.sk ?_ | refine Sg.sk1 ?_
    refine Sg.bl ?_
    refine Sg.rg ?_
    refine Sg.mv (v := .int .i64 ((set_.length - 1 - i : Nat) : Int)) (hs := Sg.rs rfl t16) (h := ?_)
    refine Sg.isub (c := ((set_.length - 1 - (i + 1) : Nat) : Int)) (hc := by unfold wrap64; omega) (h := ?_)
    refine Sg.asg (v := .int .i64 ((set_.length - 1 - (i + 1) : Nat) : Int)) (h := ?_)
    first | refine Sg.nl ?_ | refine Sg.nl1 ?_
    exact hK15 _ _ _ hlt_i ⟨fun j hj h53_ => (Sg.un (by omega)).trans ((s13 _ (by omega) (by omega))), rfl, b14⟩
   ·skip
    have h21 : m = i := by omega
    subst h21
    have g2 : ((set_.length - 1 - m : Nat) : Int) = ((p : Nat) : Int) := by omega
    have g3 : rd set_ ((set_.length - 1 - m : Nat) : Int) ≠ 20 := by rw [g2]; exact e7
    have f22 := Kd.C_below f3 (below_step b6 b14)
    obtain ⟨ad23, hA24, hc25⟩ := Kd.at_int f22 ((set_.length - 1 - m : Nat) : Int) (Int.natCast_nonneg _) (Int.ofNat_lt.2 (by omega))
    refine Sg.sq ?_
    refine Sg.sq ?_
    refine Sg.rg ?_
    refine Sg.mv (v := .int .i64 ((set_.length - 1 - m : Nat) : Int)) (hs := Sg.rs rfl t16) (h := ?_)
    refine Sg.igeq (c := true) (hc := iff_of_true (by omega) rfl) (h := ?_)
    refine Sg.mv (v := .bool true) (h := ?_)
    refine Sg.mv (v := .slice A33 set_.length c33) (hw := Sg.wy (d := 434) rfl rfl rfl) (hs := Sg.rs rfl ((s13 33 (by decide) (by decide)).trans ((congrFun hσ9 33).trans h33))) (h := ?_)
    refine Sg.mv (v := .int .i64 ((set_.length - 1 - m : Nat) : Int)) (hw := Sg.wy (d := 434) rfl rfl rfl) (hs := Sg.rs rfl t16) (h := ?_)
    refine Sg.yy (hy := Sg.Xixa (sz := 1) (i := ((set_.length - 1 - m : Nat) : Int)) (hu := Tryz.underlying29) (hsz := by kernel_rfl) (h0 := Int.natCast_nonneg _) (h1 := Int.ofNat_lt.2 (by omega)) (had := by rw [Nat.mul_one]) (ho := rfl) (hx := Sg.rs rfl (congrArg (fun a_ => Value.slice a_ set_.length c33) hA24))) (hw := Sg.wy (d := 434) rfl rfl rfl) (h := ?_)
    refine Sg.yy (hy := Sg.Xldi (hu := Tryz.underlying3) (hc := hc25)) (hw := Sg.wy (d := 434) rfl rfl rfl) (h := ?_)
    refine Sg.ieql (c := false) (hw := Sg.wy (d := 434) rfl rfl rfl) (hc := iff_of_false g3 Bool.false_ne_true) (h := ?_)
    refine Sg.pk (v := .bool false) (h := ?_)
    first | refine Sg.nl ?_ | refine Sg.nl1 ?_
    refine Sg.cf rfl rfl ?_
    refine Sg.ex0 ?_
    refine Sg.sq ?_
    have g4 : _ = Value.int .i64 ((p : Nat) : Int) := (t16).trans (congrArg (Value.int .i64) g2)
    have g5 : p < set_.length := by omega
    have g6 : p < next.length := by omega
    have f26 := Kd.C_below f4 (below_step b6 b14)
    obtain ⟨ad27, hA28, hc29⟩ := Kd.at_int f26 ((p : Nat) : Int) (Int.natCast_nonneg _) (Int.ofNat_lt.2 g6)
    obtain ⟨ad30, hA31, hc32⟩ := Kd.at_int f22 ((p : Nat) : Int) (Int.natCast_nonneg _) (Int.ofNat_lt.2 g5)
    obtain ⟨ad33, hA34, hc35⟩ := Kd.at_int f26 ((next.length - 1 : Nat) : Int) (Int.natCast_nonneg _) (Int.ofNat_lt.2 (by omega))
    rw [e10] at hc35
    refine Sg.da (k := 38) (h := fun w36 b37 => ?_)
    refine Sg.dv (i := 0) (hi := rfl) (hy := fun _ => (Sg.Xmv (v := .int .i64 ((p : Nat) : Int)) (ho := rfl) (hs := Sg.rs rfl g4))) (h := ?_)
    refine Sg.dv (i := 1) (hi := rfl) (hy := fun _ => (Sg.Xbin (v3 := .bool false) (hv := Sg.Ilss (iff_of_false (by omega) Bool.false_ne_true)))) (h := ?_)
    refine Sg.dv (i := 2) (hi := rfl) (hy := fun _ => (Sg.Xmv (v := .bool false))) (h := ?_)
    refine Sg.dv (i := 3) (hi := rfl) (hy := fun _ => (Sg.Xmv (v := .slice A34 next.length c34) (ho := rfl) (hs := Sg.rs rfl ((s13 34 (by decide) (by decide)).trans ((congrFun hσ9 34).trans h34))))) (hw := Sg.wy (d := 445) rfl rfl rfl) (h := ?_)
    refine Sg.dv (i := 4) (hi := rfl) (hy := fun _ => (Sg.Xmv (v := .int .i64 ((p : Nat) : Int)) (ho := rfl) (hs := Sg.rs rfl g4))) (hw := Sg.wy (d := 445) rfl rfl rfl) (h := ?_)
    have f38 := Kd.C_below f26 b37
    have f39 := Kd.C_take (m := p) f38 (show p ≤ next.length by omega)
    have f40 : (next.take p).length ≤ c34 := Nat.le_trans (List.length_take_le' _ _) p34
    refine Sg.dv (i := 5) (hi := rfl) (hy := fun _ => (Sg.Xslh (sz := 1) (i := ((p : Nat) : Int)) (r := (next.take p).length) Tryz.underlying29 (by kernel_rfl) (Int.natCast_nonneg _) (Int.le_trans (Int.ofNat_le.2 (show p ≤ next.length by omega)) (Int.ofNat_le.2 p34)) (by rw [List.length_take]; omega) rfl (Sg.rs rfl rfl) (Sg.rs rfl rfl))) (hw := Sg.wy (d := 445) rfl rfl rfl) (h := ?_)
    refine Sg.dv (i := 6) (hi := rfl) (hy := fun _ => (Sg.Xmv (v := .slice A33 set_.length c33) (ho := rfl) (hs := Sg.rs rfl ((s13 33 (by decide) (by decide)).trans ((congrFun hσ9 33).trans h33))))) (hw := Sg.wy (d := 445) rfl rfl rfl) (h := ?_)
    refine Sg.dv (i := 7) (hi := rfl) (hy := fun _ => (Sg.Xmv (v := .int .i64 ((p : Nat) : Int)) (ho := rfl) (hs := Sg.rs rfl g4))) (hw := Sg.wy (d := 445) rfl rfl rfl) (h := ?_)
    have f41 := Kd.C_below f22 b37
    have f42 := Kd.C_take (m := p) f41 (show p ≤ set_.length by omega)
    have f43 : (set_.take p).length ≤ c33 := Nat.le_trans (List.length_take_le' _ _) p33
    refine Sg.dv (i := 8) (hi := rfl) (hy := fun _ => (Sg.Xslh (sz := 1) (i := ((p : Nat) : Int)) (r := (set_.take p).length) Tryz.underlying29 (by kernel_rfl) (Int.natCast_nonneg _) (Int.le_trans (Int.ofNat_le.2 (show p ≤ set_.length by omega)) (Int.ofNat_le.2 p33)) (by rw [List.length_take]; omega) rfl (Sg.rs rfl rfl) (Sg.rs rfl rfl))) (hw := Sg.wy (d := 445) rfl rfl rfl) (h := ?_)
    refine Sg.dc (i := 9) (args := #[.slice (A34) ((next.take p).length) c34, .slice (A33) ((set_.take p).length) c33]) (hi := rfl) (hop := rfl) (hf := Tryz.func15) (hw := Sg.wy (d := 445) rfl rfl rfl) (hargs := Sg.a2 (Sg.rs rfl rfl) (Sg.rs rfl rfl)) (h := ?_)
    refine (laws_qSame.calls k (A34) c34 (next.take p) (A33) c33 (set_.take p) true _ f39 f40 f42 f43 e8).mono ?_
    rintro _ w44 ⟨rfl, d46⟩
    have b45 := d46.below
    refine ⟨_, _, rfl, (Sg.ps rfl), (below_step b37 b45), ?_⟩
    refine Sg.dv (i := 10) (hi := rfl) (hy := fun _ => (Sg.Xnt (b := true))) (hw := Sg.wy (d := 445) rfl rfl rfl) (h := ?_)
    refine Sg.dv (i := 11) (hi := rfl) (hy := fun _ => (Sg.Xpk (v := .bool false))) (h := ?_)
    refine Sg.dv (i := 12) (hi := rfl) (hy := fun _ => (Sg.Xmv (v := .bool false))) (h := ?_)
    refine Sg.dv (i := 13) (hi := rfl) (hy := fun _ => (Sg.Xmv (v := .slice A34 next.length c34) (ho := rfl) (hs := Sg.rs rfl ((s13 34 (by decide) (by decide)).trans ((congrFun hσ9 34).trans h34))))) (hw := Sg.wy (d := 455) rfl rfl rfl) (h := ?_)
    refine Sg.dv (i := 14) (hi := rfl) (hy := fun _ => (Sg.Xmv (v := .int .i64 ((p : Nat) : Int)) (ho := rfl) (hs := Sg.rs rfl g4))) (hw := Sg.wy (d := 455) rfl rfl rfl) (h := ?_)
    refine Sg.dv (i := 15) (hi := rfl) (hy := fun _ => (Sg.Xixa (sz := 1) (i := ((p : Nat) : Int)) (hu := Tryz.underlying29) (hsz := by kernel_rfl) (h0 := Int.natCast_nonneg _) (h1 := Int.ofNat_lt.2 g6) (had := by rw [Nat.mul_one]) (ho := rfl) (hx := Sg.rs rfl (congrArg (fun a_ => Value.slice a_ next.length c34) hA28)))) (hw := Sg.wy (d := 455) rfl rfl rfl) (h := ?_)
    refine Sg.dt (i := 16) (hi := rfl) (hb := below_step b37 b45) (hy := fun w_ b_ => (Sg.Xldi (hu := Tryz.underlying3) (hc := pw_cell_below b_ hc29 ))) (hw := Sg.wy (d := 455) rfl rfl rfl) (h := ?_)
    refine Sg.dv (i := 17) (hi := rfl) (hy := fun _ => (Sg.Xmv (v := .slice A33 set_.length c33) (ho := rfl) (hs := Sg.rs rfl ((s13 33 (by decide) (by decide)).trans ((congrFun hσ9 33).trans h33))))) (hw := Sg.wy (d := 455) rfl rfl rfl) (h := ?_)
    refine Sg.dv (i := 18) (hi := rfl) (hy := fun _ => (Sg.Xmv (v := .int .i64 ((p : Nat) : Int)) (ho := rfl) (hs := Sg.rs rfl g4))) (hw := Sg.wy (d := 455) rfl rfl rfl) (h := ?_)
    refine Sg.dv (i := 19) (hi := rfl) (hy := fun _ => (Sg.Xixa (sz := 1) (i := ((p : Nat) : Int)) (hu := Tryz.underlying29) (hsz := by kernel_rfl) (h0 := Int.natCast_nonneg _) (h1 := Int.ofNat_lt.2 g5) (had := by rw [Nat.mul_one]) (ho := rfl) (hx := Sg.rs rfl (congrArg (fun a_ => Value.slice a_ set_.length c33) hA31)))) (hw := Sg.wy (d := 455) rfl rfl rfl) (h := ?_)
    refine Sg.dt (i := 20) (hi := rfl) (hb := below_step b37 b45) (hy := fun w_ b_ => (Sg.Xldi (hu := Tryz.underlying3) (hc := pw_cell_below b_ hc32 ))) (hw := Sg.wy (d := 455) rfl rfl rfl) (h := ?_)
    refine Sg.dv (i := 21) (hi := rfl) (hy := fun _ => (Sg.Xbin (v3 := .int .i64 (rd next ((p : Nat) : Int))) (hv := Sg.Iadd e9))) (hw := Sg.wy (d := 455) rfl rfl rfl) (h := ?_)
    refine Sg.dv (i := 22) (hi := rfl) (hy := fun _ => (Sg.Xbin (v3 := .bool false) (hv := Sg.Ineq (iff_of_false (by omega) Bool.false_ne_true)))) (hw := Sg.wy (d := 455) rfl rfl rfl) (h := ?_)
    refine Sg.dv (i := 23) (hi := rfl) (hy := fun _ => (Sg.Xpk (v := .bool false))) (h := ?_)
    refine Sg.dv (i := 24) (hi := rfl) (hy := fun _ => (Sg.Xmv (v := .bool false))) (h := ?_)
    refine Sg.dv (i := 25) (hi := rfl) (hy := fun _ => (Sg.Xmv (v := .slice A34 next.length c34) (ho := rfl) (hs := Sg.rs rfl ((s13 34 (by decide) (by decide)).trans ((congrFun hσ9 34).trans h34))))) (hw := Sg.wy (d := 467) rfl rfl rfl) (h := ?_)
    refine Sg.dv (i := 26) (hi := rfl) (hy := fun _ => (Sg.Xmv (v := .slice A34 next.length c34) (ho := rfl) (hs := Sg.rs rfl ((s13 34 (by decide) (by decide)).trans ((congrFun hσ9 34).trans h34))))) (hw := Sg.wy (d := 467) rfl rfl rfl) (h := ?_)
    refine Sg.dv (i := 27) (hi := rfl) (hy := fun _ => (Sg.Xlen (hu := by first | exact Tryz.underlying22 | exact Tryz.underlying26 | exact Tryz.underlying29) (ho := rfl))) (hw := Sg.wy (d := 467) rfl rfl rfl) (h := ?_)
    refine Sg.dv (i := 28) (hi := rfl) (hy := fun _ => (Sg.Xbin (v3 := .int .i64 ((next.length - 1 : Nat) : Int)) (hv := Sg.Isub (by unfold wrap64; omega)))) (hw := Sg.wy (d := 467) rfl rfl rfl) (h := ?_)
    refine Sg.dv (i := 29) (hi := rfl) (hy := fun _ => (Sg.Xixa (sz := 1) (i := ((next.length - 1 : Nat) : Int)) (hu := Tryz.underlying29) (hsz := by kernel_rfl) (h0 := Int.natCast_nonneg _) (h1 := Int.ofNat_lt.2 (by omega)) (had := by rw [Nat.mul_one]) (ho := rfl) (hx := Sg.rs rfl (congrArg (fun a_ => Value.slice a_ next.length c34) hA34)))) (hw := Sg.wy (d := 467) rfl rfl rfl) (h := ?_)
    refine Sg.dt (i := 30) (hi := rfl) (hb := below_step b37 b45) (hy := fun w_ b_ => (Sg.Xldi (hu := Tryz.underlying3) (hc := pw_cell_below b_ hc35 ))) (hw := Sg.wy (d := 467) rfl rfl rfl) (h := ?_)
    refine Sg.dv (i := 31) (hi := rfl) (hy := fun _ => (Sg.Xmv (v := .slice A33 set_.length c33) (ho := rfl) (hs := Sg.rs rfl ((s13 33 (by decide) (by decide)).trans ((congrFun hσ9 33).trans h33))))) (hw := Sg.wy (d := 467) rfl rfl rfl) (h := ?_)
    refine Sg.dv (i := 32) (hi := rfl) (hy := fun _ => (Sg.Xmv (v := .int .i64 ((p : Nat) : Int)) (ho := rfl) (hs := Sg.rs rfl g4))) (hw := Sg.wy (d := 467) rfl rfl rfl) (h := ?_)
    refine Sg.dv (i := 33) (hi := rfl) (hy := fun _ => (Sg.Xixa (sz := 1) (i := ((p : Nat) : Int)) (hu := Tryz.underlying29) (hsz := by kernel_rfl) (h0 := Int.natCast_nonneg _) (h1 := Int.ofNat_lt.2 g5) (had := by rw [Nat.mul_one]) (ho := rfl) (hx := Sg.rs rfl (congrArg (fun a_ => Value.slice a_ set_.length c33) hA31)))) (hw := Sg.wy (d := 467) rfl rfl rfl) (h := ?_)
    refine Sg.dt (i := 34) (hi := rfl) (hb := below_step b37 b45) (hy := fun w_ b_ => (Sg.Xldi (hu := Tryz.underlying3) (hc := pw_cell_below b_ hc32 ))) (hw := Sg.wy (d := 467) rfl rfl rfl) (h := ?_)
    refine Sg.dv (i := 35) (hi := rfl) (hy := fun _ => (Sg.Xbin (v3 := .int .i64 (rd next ((p : Nat) : Int))) (hv := Sg.Iadd e9))) (hw := Sg.wy (d := 467) rfl rfl rfl) (h := ?_)
    refine Sg.dv (i := 36) (hi := rfl) (hy := fun _ => (Sg.Xbin (v3 := .bool false) (hv := Sg.Ineq (by simp)))) (hw := Sg.wy (d := 467) rfl rfl rfl) (h := ?_)
    refine Sg.dv (i := 37) (hi := rfl) (hy := fun _ => (Sg.Xpk (v := .bool false))) (h := ?_)
    first | refine Sg.dend (h := ?_) | refine Sg.dend1 (h := ?_)
    refine Sg.cf rfl rfl ?_
    first | refine Sg.sk ?_ | refine Sg.sk1 ?_
    exact hK _ _ _ (fun j hj => (s13 _ (by omega) (by omega)).trans ((congrFun hσ9 _).trans ((Sg.un (by omega))))) (below_step (below_step (below_step (below_step b2 b6) b14) b37) b45)
theorem g4pI (k : Nat) (set_ : List Int) (next : List Int) (seven : Bool) (u : List Int) (years : Int) (later : List Int) (nine : Bool) (c : Int) (from_ : Int) (to_ : Int) (at_ : Int) (most : Int) (eleven : Bool) (σ τ : Sg.Fr) (w : World) {rest : Code} {Q : Exit → Act → World → Prop} (hQp : ∀ c (a : Act) d v w, Q (.panic c) (a.put d v) w → Q (.panic c) a w) (hSt : g4St2 set_ next seven u years later nine c from_ to_ at_ most eleven σ w)
    (h9 : nine = true → impl_LaterSet.f k later (wrap64 (-years)) = some (u, true) ∧ laws_qSame.f k u u = some true)
    (hK : ∀ σ' τ' w', (∀ j, j < 53 → σ' j = σ j) → Below w.heap.size w w' → rest.wp Tryz.prog Q (Sg.fr 556 (Sg.mix 61 σ' τ')) w') :
    (Code.seq (g4S 25) rest).wp Tryz.prog Q (Sg.fr 556 (Sg.mix 61 σ τ)) w := by
  obtain ⟨A33, c33, A34, c34, A38, c38, A40, c40, ⟨h33, h34, h35, h38, h39, h40, h41, h44, h45, h46, h47, h48, h49⟩, ⟨q33, p33⟩, ⟨q34, p34⟩, ⟨q38, p38⟩, ⟨q40, p40⟩⟩ := hSt
  refine Sg.sq ?_
  refine Sg.sq ?_
  refine Sg.rg ?_
  refine Sg.mv (v := .bool nine) (hs := Sg.rs rfl h41) (h := ?_)
  first | refine Sg.nl ?_ | refine Sg.nl1 ?_
  cases nine
  ·skip
   refine Sg.cf rfl rfl ?_
   first | refine Sg.sk ?_ | refine Sg.sk1 ?_
   exact hK _ _ _ (fun j hj => rfl) (Below.refl _ _)
  ·skip
   obtain ⟨e1, e2⟩ := h9 rfl
   refine Sg.ct rfl rfl ?_
   refine Sg.sq ?_
   refine Sg.rg ?_
   refine Sg.mv (v := .slice A40 later.length c40) (hs := Sg.rs rfl h40) (h := ?_)
   refine Sg.mv (v := .int .i64 years) (hs := Sg.rs rfl h39) (h := ?_)
   refine Sg.neg (c := wrap64 (-years)) (hc := rfl) (h := ?_)
   refine Sg.cl (args := #[.slice A40 later.length c40, .int .i64 (wrap64 (-years))]) (hf := Tryz.func26) (hargs := Sg.a2 (Sg.rs rfl rfl) (Sg.rs rfl rfl)) (h := ?_)
   refine (impl_LaterSet.calls k A40 c40 later (wrap64 (-years)) u true _ q40 p40 e1).mono ?_
   rintro _ w1 ⟨v3, rfl, r4, b2⟩
   obtain ⟨A5, c6, rfl, f8, f7⟩ := Kd.R_reads r4
   refine ⟨_, _, rfl, (Sg.ps rfl), ?_⟩
   refine Sg.mv (v := .tuple #[.slice A5 u.length c6, .bool true]) (h := ?_)
   refine Sg.ext (v := .slice A5 u.length c6) (h := ?_)
   refine Sg.ext (v := .bool true) (h := ?_)
   refine Sg.asg (v := .slice A5 u.length c6) (h := ?_)
   refine Sg.asg (v := .bool true) (h := ?_)
   first | refine Sg.nl ?_ | refine Sg.nl1 ?_
   refine Sg.sq ?_
   refine Sg.rg ?_
   refine Sg.mv (v := .bool true) (h := ?_)
   refine Sg.nt (b := true) (h := ?_)
   refine Sg.mv (v := .bool false) (h := ?_)
   refine Sg.mv (v := .slice A5 u.length c6) (hw := Sg.wy (d := 491) rfl rfl rfl) (h := ?_)
   refine Sg.mv (v := .slice A38 u.length c38) (hw := Sg.wy (d := 491) rfl rfl rfl) (hs := Sg.rs rfl h38) (h := ?_)
   refine Sg.cl (args := #[.slice A5 u.length c6, .slice A38 u.length c38]) (hf := Tryz.func15) (hw := Sg.wy (d := 491) rfl rfl rfl) (hargs := Sg.a2 (Sg.rs rfl rfl) (Sg.rs rfl rfl)) (h := ?_)
   have f9 := Kd.C_below q38 b2
   refine (laws_qSame.calls k A5 c6 u A38 c38 u true _ f7 f8 f9 p38 e2).mono ?_
   rintro _ w10 ⟨rfl, d12⟩
   have b11 := d12.below
   refine ⟨_, _, rfl, (Sg.ps rfl), ?_⟩
   refine Sg.nt (b := true) (hw := Sg.wy (d := 491) rfl rfl rfl) (h := ?_)
   refine Sg.pk (v := .bool false) (h := ?_)
   first | refine Sg.nl ?_ | refine Sg.nl1 ?_
   refine Sg.cf rfl rfl ?_
   first | refine Sg.sk ?_ | refine Sg.sk1 ?_
   exact hK _ _ _ (fun j hj => (Sg.un (by omega)).trans ((Sg.un (by omega)))) (below_step b2 b11)
theorem g4pJ (k : Nat) (set_ : List Int) (next : List Int) (seven : Bool) (u : List Int) (years : Int) (later : List Int) (nine : Bool) (c : Int) (from_ : Int) (to_ : Int) (at_ : Int) (most : Int) (eleven : Bool) (σ τ : Sg.Fr) (w : World) {rest : Code} {Q : Exit → Act → World → Prop} (hQp : ∀ c (a : Act) d v w, Q (.panic c) (a.put d v) w → Q (.panic c) a w) (hSt : g4St2 set_ next seven u years later nine c from_ to_ at_ most eleven σ w)
    (h11 : eleven = true → impl_CountSets.f c at_ = some (most, true) ∧ from_ ≤ at_ ∧ at_ ≤ to_ ∧ (1 ≤ from_ ∧ to_ ≤ 160000) ∧
      ∀ i : Nat, from_ + (i : Int) ≤ to_ → i < 30 → ∃ n : Int, impl_CountSets.f c (from_ + (i : Int)) = some (n, true) ∧ n ≤ most ∧ (n = most → at_ ≤ from_ + (i : Int)))
    (hK : ∀ σ' τ' w', (∀ j, j < 53 → σ' j = σ j) → Below w.heap.size w w' → rest.wp Tryz.prog Q (Sg.fr 556 (Sg.mix 61 σ' τ')) w') :
    (Code.seq (g4S 26) rest).wp Tryz.prog Q (Sg.fr 556 (Sg.mix 61 σ τ)) w := by
  obtain ⟨A33, c33, A34, c34, A38, c38, A40, c40, ⟨h33, h34, h35, h38, h39, h40, h41, h44, h45, h46, h47, h48, h49⟩, ⟨q33, p33⟩, ⟨q34, p34⟩, ⟨q38, p38⟩, ⟨q40, p40⟩⟩ := hSt
  refine Sg.sq ?_
  refine Sg.sq ?_
  refine Sg.rg ?_
  refine Sg.mv (v := .bool eleven) (hs := Sg.rs rfl h49) (h := ?_)
  first | refine Sg.nl ?_ | refine Sg.nl1 ?_
  cases eleven
  ·skip
   refine Sg.cf rfl rfl ?_
   first | refine Sg.sk ?_ | refine Sg.sk1 ?_
   exact hK _ _ _ (fun j hj => rfl) (Below.refl _ _)
  ·skip
   obtain ⟨e1, e2, e3, ⟨e4, e5⟩, e6⟩ := h11 rfl
   refine Sg.ct rfl rfl ?_
   refine Sg.sq ?_
   refine Sg.rg ?_
   refine Sg.mv (v := .int .i64 c) (hs := Sg.rs rfl h44) (h := ?_)
   refine Sg.mv (v := .int .i64 at_) (hs := Sg.rs rfl h47) (h := ?_)
   refine Sg.cl (args := #[.int .i64 c, .int .i64 at_]) (hf := Tryz.func32) (hargs := Sg.a2 (Sg.rs rfl rfl) (Sg.rs rfl rfl)) (h := ?_)
   refine (impl_CountSets.calls c at_ most true _ e1).mono ?_
   rintro _ w1 ⟨rfl, b2⟩
   refine ⟨_, _, rfl, (Sg.ps rfl), ?_⟩
   refine Sg.mv (v := .tuple #[.int .i64 most, .bool true]) (h := ?_)
   refine Sg.ext (v := .int .i64 most) (h := ?_)
   refine Sg.ext (v := .bool true) (h := ?_)
   refine Sg.asg (v := .int .i64 most) (h := ?_)
   refine Sg.asg (v := .bool true) (h := ?_)
   first | refine Sg.nl ?_ | refine Sg.nl1 ?_
   refine Sg.sq ?_
   refine Sg.sq ?_
   refine Sg.rg ?_
   refine Sg.mv (v := .int .i64 at_) (hs := Sg.rs rfl h47) (h := ?_)
   refine Sg.mv (v := .int .i64 from_) (hs := Sg.rs rfl h45) (h := ?_)
   refine Sg.ilss (c := false) (hc := iff_of_false (by omega) Bool.false_ne_true) (h := ?_)
   refine Sg.mv (v := .bool false) (h := ?_)
   refine Sg.mv (v := .int .i64 at_) (hw := Sg.wy (d := 507) rfl rfl rfl) (hs := Sg.rs rfl h47) (h := ?_)
   refine Sg.mv (v := .int .i64 to_) (hw := Sg.wy (d := 507) rfl rfl rfl) (hs := Sg.rs rfl h46) (h := ?_)
   refine Sg.igtr (c := false) (hw := Sg.wy (d := 507) rfl rfl rfl) (hc := iff_of_false (by omega) Bool.false_ne_true) (h := ?_)
   refine Sg.pk (v := .bool false) (h := ?_)
   refine Sg.mv (v := .bool false) (h := ?_)
   refine Sg.mv (v := .bool true) (hw := Sg.wy (d := 512) rfl rfl rfl) (h := ?_)
   refine Sg.nt (b := true) (hw := Sg.wy (d := 512) rfl rfl rfl) (h := ?_)
   refine Sg.pk (v := .bool false) (h := ?_)
   refine Sg.mv (v := .bool false) (h := ?_)
   refine Sg.mv (v := .int .i64 most) (hw := Sg.wy (d := 516) rfl rfl rfl) (h := ?_)
   refine Sg.mv (v := .int .i64 most) (hw := Sg.wy (d := 516) rfl rfl rfl) (hs := Sg.rs rfl h48) (h := ?_)
   refine Sg.ineq (c := false) (hw := Sg.wy (d := 516) rfl rfl rfl) (h := ?_)
   refine Sg.pk (v := .bool false) (h := ?_)
   first | refine Sg.nl ?_ | refine Sg.nl1 ?_
   refine Sg.cf rfl rfl ?_
   first | refine Sg.sk ?_ | refine Sg.sk1 ?_
   refine Sg.sq ?_
   refine Sg.rg ?_
   refine Sg.mv (v := .int .i64 from_) (hs := Sg.rs rfl h45) (h := ?_)
   refine Sg.asg (v := .int .i64 from_) (h := ?_)
   first | refine Sg.nl ?_ | refine Sg.nl1 ?_
   refine Sg.gs fun σ3 hσ4 => ?_
   refine Sg.bl ?_
   refine Sg.lp (min (to_ - from_ + 1).toNat 30) (fun i σ' τ' w' => (∀ j, j < 61 → j ≠ 58 → j ≠ 59 → j ≠ 60 → σ' j = σ3 j) ∧ σ' 58 = .int .i64 (from_ + ((i : Nat) : Int)) ∧ Below w1.heap.size w1 w') 0 (Nat.zero_le _) ⟨fun _ _ _ _ _ => rfl, ((((congrFun hσ4 58).trans rfl)).trans (congrArg (Value.int .i64) (show from_ = from_ + ((0 : Nat) : Int) by simp))), Below.refl _ _⟩ ?_
   rintro i σ5 τ6 w7 hi_i ⟨s8, t11, b9⟩ K10 hK10
   by_cases hlt_i : i < min (to_ - from_ + 1).toNat 30
   ·skip
    obtain ⟨n, g1, g2, g3⟩ := e6 i (by omega) (by omega)
    refine Sg.sq ?_
    refine Sg.sq ?_
    refine Sg.rg ?_
    refine Sg.mv (v := .int .i64 (from_ + ((i : Nat) : Int))) (hs := Sg.rs rfl t11) (h := ?_)
    refine Sg.mv (v := .int .i64 to_) (hs := Sg.rs rfl ((s8 46 (by decide) (by decide) (by decide) (by decide)).trans ((congrFun hσ4 46).trans h46))) (h := ?_)
    refine Sg.ileq (c := true) (hc := iff_of_true (by omega) rfl) (h := ?_)
    refine Sg.mv (v := .bool true) (h := ?_)
    refine Sg.mv (v := .int .i64 (from_ + ((i : Nat) : Int))) (hw := Sg.wy (d := 525) rfl rfl rfl) (hs := Sg.rs rfl t11) (h := ?_)
    refine Sg.mv (v := .int .i64 from_) (hw := Sg.wy (d := 525) rfl rfl rfl) (hs := Sg.rs rfl ((s8 45 (by decide) (by decide) (by decide) (by decide)).trans ((congrFun hσ4 45).trans h45))) (h := ?_)
    refine Sg.iadd (c := (from_ + 30)) (hw := Sg.wy (d := 525) rfl rfl rfl) (hc := by unfold wrap64; omega) (h := ?_)
    refine Sg.ilss (c := true) (hw := Sg.wy (d := 525) rfl rfl rfl) (hc := iff_of_true (by omega) rfl) (h := ?_)
    refine Sg.pk (v := .bool true) (h := ?_)
    first | refine Sg.nl ?_ | refine Sg.nl1 ?_
    refine Sg.ct rfl rfl ?_
    first | refine Sg.sk ?_ | refine Sg.sk1 ?_
    refine Sg.sq ?_
    refine Sg.bl ?_
    refine Sg.sq ?_
    refine Sg.rg ?_
    refine Sg.mv (v := .int .i64 c) (hs := Sg.rs rfl ((s8 44 (by decide) (by decide) (by decide) (by decide)).trans ((congrFun hσ4 44).trans h44))) (h := ?_)
    refine Sg.mv (v := .int .i64 (from_ + ((i : Nat) : Int))) (hs := Sg.rs rfl t11) (h := ?_)
    refine Sg.cl (args := #[.int .i64 c, .int .i64 (from_ + ((i : Nat) : Int))]) (hf := Tryz.func32) (hargs := Sg.a2 (Sg.rs rfl rfl) (Sg.rs rfl rfl)) (h := ?_)
    refine (impl_CountSets.calls c (from_ + ((i : Nat) : Int)) n true _ g1).mono ?_
    rintro _ w12 ⟨rfl, b13⟩
    refine ⟨_, _, rfl, (Sg.ps rfl), ?_⟩
    refine Sg.mv (v := .tuple #[.int .i64 n, .bool true]) (h := ?_)
    refine Sg.ext (v := .int .i64 n) (h := ?_)
    refine Sg.ext (v := .bool true) (h := ?_)
    refine Sg.asg (v := .int .i64 n) (h := ?_)
    refine Sg.asg (v := .bool true) (h := ?_)
    first | refine Sg.nl ?_ | refine Sg.nl1 ?_
    refine Sg.sq ?_
    by_cases hnm : n = most
    ·skip
     have g4 := g3 hnm
     refine Sg.rg ?_
     refine Sg.mv (v := .bool true) (h := ?_)
     refine Sg.nt (b := true) (h := ?_)
     refine Sg.mv (v := .bool false) (h := ?_)
     refine Sg.mv (v := .int .i64 n) (hw := Sg.wy (d := 541) rfl rfl rfl) (h := ?_)
     refine Sg.mv (v := .int .i64 most) (hw := Sg.wy (d := 541) rfl rfl rfl) (hs := Sg.rs rfl ((s8 48 (by decide) (by decide) (by decide) (by decide)).trans ((congrFun hσ4 48).trans h48))) (h := ?_)
     refine Sg.igtr (c := false) (hw := Sg.wy (d := 541) rfl rfl rfl) (hc := iff_of_false (by omega) Bool.false_ne_true) (h := ?_)
     refine Sg.pk (v := .bool false) (h := ?_)
     refine Sg.mv (v := .bool false) (h := ?_)
     refine Sg.mv (v := .int .i64 n) (hw := Sg.wy (d := 546) rfl rfl rfl) (h := ?_)
     refine Sg.mv (v := .int .i64 most) (hw := Sg.wy (d := 546) rfl rfl rfl) (hs := Sg.rs rfl ((s8 48 (by decide) (by decide) (by decide) (by decide)).trans ((congrFun hσ4 48).trans h48))) (h := ?_)
     refine Sg.ieql (c := true) (hw := Sg.wy (d := 546) rfl rfl rfl) (hc := iff_of_true hnm rfl) (h := ?_)
     refine Sg.mv (v := .bool true) (hw := Sg.wy (d := 546) rfl rfl rfl) (h := ?_)
     refine Sg.mv (v := .int .i64 (from_ + ((i : Nat) : Int))) (hw := Sg.wy (d := 550) rfl rfl rfl) (hs := Sg.rs rfl t11) (h := ?_)
     refine Sg.mv (v := .int .i64 at_) (hw := Sg.wy (d := 550) rfl rfl rfl) (hs := Sg.rs rfl ((s8 47 (by decide) (by decide) (by decide) (by decide)).trans ((congrFun hσ4 47).trans h47))) (h := ?_)
     refine Sg.ilss (c := false) (hw := Sg.wy (d := 550) rfl rfl rfl) (hc := iff_of_false (by omega) Bool.false_ne_true) (h := ?_)
     refine Sg.pk (v := .bool false) (hw := Sg.wy (d := 546) rfl rfl rfl) (h := ?_)
     refine Sg.pk (v := .bool false) (h := ?_)
     first | refine Sg.nl ?_ | refine Sg.nl1 ?_
     refine Sg.cf rfl rfl ?_
     first | refine Sg.sk ?_ | refine Sg.sk1 ?_
     refine Sg.rg ?_
     refine Sg.mv (v := .int .i64 (from_ + ((i : Nat) : Int))) (hs := Sg.rs rfl t11) (h := ?_)
     refine Sg.iadd (c := (from_ + ((i + 1 : Nat) : Int))) (hc := by unfold wrap64; omega) (h := ?_)
     refine Sg.asg (v := .int .i64 (from_ + ((i + 1 : Nat) : Int))) (h := ?_)
     first | refine Sg.nl ?_ | refine Sg.nl1 ?_
     exact hK10 _ _ _ hlt_i ⟨fun j hj h58_ h59_ h60_ => (Sg.un (by omega)).trans ((Sg.un (by omega)).trans ((Sg.un (by omega)).trans ((s8 _ (by omega) (by omega) (by omega) (by omega))))), rfl, (below_step b9 b13)⟩
    ·skip
     refine Sg.rg ?_
     refine Sg.mv (v := .bool true) (h := ?_)
     refine Sg.nt (b := true) (h := ?_)
     refine Sg.mv (v := .bool false) (h := ?_)
     refine Sg.mv (v := .int .i64 n) (hw := Sg.wy (d := 541) rfl rfl rfl) (h := ?_)
     refine Sg.mv (v := .int .i64 most) (hw := Sg.wy (d := 541) rfl rfl rfl) (hs := Sg.rs rfl ((s8 48 (by decide) (by decide) (by decide) (by decide)).trans ((congrFun hσ4 48).trans h48))) (h := ?_)
     refine Sg.igtr (c := false) (hw := Sg.wy (d := 541) rfl rfl rfl) (hc := iff_of_false (by omega) Bool.false_ne_true) (h := ?_)
     refine Sg.pk (v := .bool false) (h := ?_)
     refine Sg.mv (v := .bool false) (h := ?_)
     refine Sg.mv (v := .int .i64 n) (hw := Sg.wy (d := 546) rfl rfl rfl) (h := ?_)
     refine Sg.mv (v := .int .i64 most) (hw := Sg.wy (d := 546) rfl rfl rfl) (hs := Sg.rs rfl ((s8 48 (by decide) (by decide) (by decide) (by decide)).trans ((congrFun hσ4 48).trans h48))) (h := ?_)
     refine Sg.ieql (c := false) (hw := Sg.wy (d := 546) rfl rfl rfl) (hc := iff_of_false hnm Bool.false_ne_true) (h := ?_)
     refine Sg.mv (v := .bool false) (hw := Sg.wy (d := 546) rfl rfl rfl) (h := ?_)
     refine Sg.off (hw := Sg.yl (d := 550) rfl rfl rfl) (hb := rfl) (h := ?_)
     refine Sg.off (hw := Sg.yl (d := 550) rfl rfl rfl) (hb := rfl) (h := ?_)
     refine Sg.off (hw := Sg.yl (d := 550) rfl rfl rfl) (hb := rfl) (h := ?_)
     refine Sg.pk (v := .bool false) (hw := Sg.wy (d := 546) rfl rfl rfl) (h := ?_)
     refine Sg.pk (v := .bool false) (h := ?_)
     first | refine Sg.nl ?_ | refine Sg.nl1 ?_
     refine Sg.cf rfl rfl ?_
     first | refine Sg.sk ?_ | refine Sg.sk1 ?_
     refine Sg.rg ?_
     refine Sg.mv (v := .int .i64 (from_ + ((i : Nat) : Int))) (hs := Sg.rs rfl t11) (h := ?_)
     refine Sg.iadd (c := (from_ + ((i + 1 : Nat) : Int))) (hc := by unfold wrap64; omega) (h := ?_)
     refine Sg.asg (v := .int .i64 (from_ + ((i + 1 : Nat) : Int))) (h := ?_)
     first | refine Sg.nl ?_ | refine Sg.nl1 ?_
     exact hK10 _ _ _ hlt_i ⟨fun j hj h58_ h59_ h60_ => (Sg.un (by omega)).trans ((Sg.un (by omega)).trans ((Sg.un (by omega)).trans ((s8 _ (by omega) (by omega) (by omega) (by omega))))), rfl, (below_step b9 b13)⟩
   ·skip
    have h14 : min (to_ - from_ + 1).toNat 30 = i := by omega
    subst h14
    by_cases hto : to_ - from_ + 1 ≤ 30
    ·skip
     refine Sg.sq ?_
     refine Sg.sq ?_
     refine Sg.rg ?_
     refine Sg.mv (v := .int .i64 (from_ + (((min (to_ - from_ + 1).toNat 30) : Nat) : Int))) (hs := Sg.rs rfl t11) (h := ?_)
     refine Sg.mv (v := .int .i64 to_) (hs := Sg.rs rfl ((s8 46 (by decide) (by decide) (by decide) (by decide)).trans ((congrFun hσ4 46).trans h46))) (h := ?_)
     refine Sg.ileq (c := false) (hc := iff_of_false (by omega) Bool.false_ne_true) (h := ?_)
     refine Sg.mv (v := .bool false) (h := ?_)
     refine Sg.off (hw := Sg.yl (d := 525) rfl rfl rfl) (hb := rfl) (h := ?_)
     refine Sg.off (hw := Sg.yl (d := 525) rfl rfl rfl) (hb := rfl) (h := ?_)
     refine Sg.off (hw := Sg.yl (d := 525) rfl rfl rfl) (hb := rfl) (h := ?_)
     refine Sg.off (hw := Sg.yl (d := 525) rfl rfl rfl) (hb := rfl) (h := ?_)
     refine Sg.pk (v := .bool false) (h := ?_)
     first | refine Sg.nl ?_ | refine Sg.nl1 ?_
     refine Sg.cf rfl rfl ?_
     refine Sg.ex0 ?_
     exact hK _ _ _ (fun j hj => (s8 _ (by omega) (by omega) (by omega) (by omega)).trans ((congrFun hσ4 _).trans ((Sg.un (by omega)).trans ((Sg.un (by omega)).trans ((Sg.un (by omega))))))) (below_step b2 b9)
    ·skip
     refine Sg.sq ?_
     refine Sg.sq ?_
     refine Sg.rg ?_
     refine Sg.mv (v := .int .i64 (from_ + (((min (to_ - from_ + 1).toNat 30) : Nat) : Int))) (hs := Sg.rs rfl t11) (h := ?_)
     refine Sg.mv (v := .int .i64 to_) (hs := Sg.rs rfl ((s8 46 (by decide) (by decide) (by decide) (by decide)).trans ((congrFun hσ4 46).trans h46))) (h := ?_)
     refine Sg.ileq (c := true) (hc := iff_of_true (by omega) rfl) (h := ?_)
     refine Sg.mv (v := .bool true) (h := ?_)
     refine Sg.mv (v := .int .i64 (from_ + (((min (to_ - from_ + 1).toNat 30) : Nat) : Int))) (hw := Sg.wy (d := 525) rfl rfl rfl) (hs := Sg.rs rfl t11) (h := ?_)
     refine Sg.mv (v := .int .i64 from_) (hw := Sg.wy (d := 525) rfl rfl rfl) (hs := Sg.rs rfl ((s8 45 (by decide) (by decide) (by decide) (by decide)).trans ((congrFun hσ4 45).trans h45))) (h := ?_)
     refine Sg.iadd (c := (from_ + 30)) (hw := Sg.wy (d := 525) rfl rfl rfl) (hc := by unfold wrap64; omega) (h := ?_)
     refine Sg.ilss (c := false) (hw := Sg.wy (d := 525) rfl rfl rfl) (hc := iff_of_false (by omega) Bool.false_ne_true) (h := ?_)
     refine Sg.pk (v := .bool false) (h := ?_)
     first | refine Sg.nl ?_ | refine Sg.nl1 ?_
     refine Sg.cf rfl rfl ?_
     refine Sg.ex0 ?_
     exact hK _ _ _ (fun j hj => (s8 _ (by omega) (by omega) (by omega) (by omega)).trans ((congrFun hσ4 _).trans ((Sg.un (by omega)).trans ((Sg.un (by omega)).trans ((Sg.un (by omega))))))) (below_step b2 b9)
/-- What the first half's calls answer, and what the law asks of it. -/
structure g4F1 (k : Nat) (l0 : List Int) (children : Int) (sum : Int) (apart : Int) (sets : List (List Int)) (ok : Bool) (products : List Int) (one : Bool) (greatest : Int) (three : Bool) (count : Int) : Prop where
  hD : spec_DrawSetsApart.f l0 = some (children, sum, apart)
  hAI : impl_SetsApart.f children sum apart = some (sets, ok)
  hAS : spec_SetsApart.f children sum apart = some (sets, ok)
  hPI : impl_ProductsOfSum.f k children sum = some (products, one)
  hPS : spec_ProductsOfSum.f k children sum = some (products, one)
  hGI : impl_GreatestProduct.f k children sum = some (greatest, three)
  hGS : spec_GreatestProduct.f k children sum = some (greatest, three)
  hCI : impl_CountBySum.f children sum = some (count, one)
  hCS : spec_CountBySum.f children sum = some (count, one)
  hW1 : laws_qRows.f k sets sets = some true
  hW2 : laws_qSame.f k products products = some true
  hOO : ok = true → one = true
  hO3 : one = false → three = false
  hO4 : one = true → ((products.length : Int) > 0 ↔ three = true)
  hD_ : one = true → laws_qRises.f k products = some true ∧ (products.length : Int) ≤ count ∧ (1 ≤ children ∧ children ≤ 4) ∧ ((products.length : Int) = 0 ↔ count = 0) ∧ (0 < count ↔ (children ≤ sum ∧ sum ≤ children * 20)) ∧ (three = true → products.length ≤ 1000000 ∧ rd products ((products.length - 1 : Nat) : Int) = greatest)
  hE_ : ok = true → ∃ all : List (List Int), impl_SetsApart.f children sum 0 = some (all, true) ∧ ((all.length : Nat) : Int) = count ∧ ((sets.length : Nat) : Int) ≤ count ∧ laws_qOrdered.f k sets = some true ∧ all.length ≤ 1000000 ∧
      ∀ i : Nat, i < all.length → ∃ s : List Int, rd_L2 all ((i : Nat) : Int) = s ∧ ((s.length : Nat) : Int) = children ∧ (1 ≤ s.length ∧ s.length ≤ 4) ∧ laws_qSum.f k s = some sum ∧ impl_IsSet.f k s = some true ∧ (((i : Nat) : Int) < 40 → laws_qHas.f k products (prodTo s s.length) = some true ∧ laws_qHasRow.f k sets s = some (farTo apart s (s.length - 1)))

/-- The same of the second half. -/
structure g4F2 (k : Nat) (l1 : List Int) (set_ : List Int) (next : List Int) (seven : Bool) (u : List Int) (years : Int) (later : List Int) (nine : Bool) (c : Int) (from_ : Int) (to_ : Int) (at_ : Int) (most : Int) (eleven : Bool) : Prop where
  hD2 : spec_DrawNextSet.f k l1 = some set_
  hNI : impl_NextSet.f k set_ = some (next, seven)
  hNS : spec_NextSet.f k set_ = some (next, seven)
  hD3 : spec_DrawLaterSet.f k l1 = some (u, years)
  hLI : impl_LaterSet.f k u years = some (later, nine)
  hLS : spec_LaterSet.f k u years = some (later, nine)
  hD4 : spec_DrawMostSets.f l1 = some (c, from_, to_)
  hMI : impl_MostSets.f c from_ to_ = some (at_, most, eleven)
  hMS : spec_MostSets.f k c from_ to_ = some (at_, most, eleven)
  hW3 : laws_qSame.f k next next = some true
  hW4 : laws_qSame.f k later later = some true
  h7 : seven = true → impl_IsSet.f k next = some true ∧ next.length = set_.length ∧ laws_qBefore.f k set_ next = some true ∧ set_.length ≤ 4 ∧ ∃ m p : Nat, p + m + 1 = set_.length ∧ (∀ i : Nat, i < m → rd set_ ((set_.length - 1 - i : Nat) : Int) = 20) ∧ rd set_ ((p : Nat) : Int) ≠ 20 ∧
      laws_qSame.f k (next.take p) (set_.take p) = some true ∧ wrap64 (rd set_ ((p : Nat) : Int) + 1) = rd next ((p : Nat) : Int) ∧ rd next ((next.length - 1 : Nat) : Int) = rd next ((p : Nat) : Int)
  h9 : nine = true → impl_LaterSet.f k later (wrap64 (-years)) = some (u, true) ∧ laws_qSame.f k u u = some true
  h11 : eleven = true → impl_CountSets.f c at_ = some (most, true) ∧ from_ ≤ at_ ∧ at_ ≤ to_ ∧ (1 ≤ from_ ∧ to_ ≤ 160000) ∧
      ∀ i : Nat, from_ + (i : Int) ≤ to_ → i < 30 → ∃ n : Int, impl_CountSets.f c (from_ + (i : Int)) = some (n, true) ∧ n ≤ most ∧ (n = most → at_ ≤ from_ + (i : Int))

def laws_FnChildrenSummed.Pure : Prop := ∀ (l0 : List Int) (l1 : List Int), l0.length ≤ maxLen → l0.length * 1 ≤ 140737488351232 → (∀ x ∈ l0, (Lit.int .u8 x).wf = true) → l1.length ≤ maxLen → l1.length * 1 ≤ 140737488351232 → (∀ x ∈ l1, (Lit.int .u8 x).wf = true) → laws_big.f l0 l1 = some true ∨ (laws_big.f l0 l1 = some false ∧ ∃ k, (∃ children sum apart sets ok products one greatest three count, g4F1 k l0 children sum apart sets ok products one greatest three count) ∧ ∃ set_ next seven u years later nine c from_ to_ at_ most eleven, g4F2 k l1 set_ next seven u years later nine c from_ to_ at_ most eleven)
theorem g4body : Tryz.f3.body = some (Code.seq (g4S 0) (Code.seq (g4S 1) (Code.seq (g4S 2) (Code.seq (g4S 3) (Code.seq (g4S 4) (Code.seq (g4S 5) (Code.seq (g4S 6) (Code.seq (g4S 7) (Code.seq (g4S 8) (Code.seq (g4S 9) (Code.seq (g4S 10) (Code.seq (g4S 11) (Code.seq (g4S 12) (Code.seq (g4S 13) (Code.seq (g4S 14) (Code.seq (g4S 15) (Code.seq (g4S 16) (Code.seq (g4S 17) (Code.seq (g4S 18) (Code.seq (g4S 19) (Code.seq (g4S 20) (Code.seq (g4S 21) (Code.seq (g4S 22) (Code.seq (g4S 23) (Code.seq (g4S 24) (Code.seq (g4S 25) (Code.seq (g4S 26) (Code.seq (g4S 27) (g4S 28))))))))))))))))))))))))))))) := by kernel_rfl
theorem g4early (A0 : Option Addr) (c0 : Nat) (l0 : List Int) (A1 : Option Addr) (c1 : Nat) (l1 : List Int) (w : World) (hC0 : Kd.C (Kd.int .u8) w A0 l0.length l0) (hc0 : l0.length ≤ c0) (hC1 : Kd.C (Kd.int .u8) w A1 l1.length l1) (hc1 : l1.length ≤ c1) (τ : Sg.Fr) {Q : Exit → Act → World → Prop} (hQ : ∀ σ' τ' w', σ' 4 = .bool true → Below w.heap.size w w' → Q .ret (Sg.fr 556 (Sg.mix 61 σ' τ')) w') (hbig : laws_big.f l0 l1 = some true) : (Code.seq (g4S 0) (Code.seq (g4S 1) (Code.seq (g4S 2) (Code.seq (g4S 3) (Code.seq (g4S 4) (Code.seq (g4S 5) (Code.seq (g4S 6) (Code.seq (g4S 7) (Code.seq (g4S 8) (Code.seq (g4S 9) (Code.seq (g4S 10) (Code.seq (g4S 11) (Code.seq (g4S 12) (Code.seq (g4S 13) (Code.seq (g4S 14) (Code.seq (g4S 15) (Code.seq (g4S 16) (Code.seq (g4S 17) (Code.seq (g4S 18) (Code.seq (g4S 19) (Code.seq (g4S 20) (Code.seq (g4S 21) (Code.seq (g4S 22) (Code.seq (g4S 23) (Code.seq (g4S 24) (Code.seq (g4S 25) (Code.seq (g4S 26) (Code.seq (g4S 27) (g4S 28))))))))))))))))))))))))))))).wp Tryz.prog Q (Sg.fr 556 (Sg.mix 61 (fun i => (#[.slice A0 l0.length c0, .slice A1 l1.length c1] : Array Value).getD i undef) τ)) w := by
  refine Sg.sq ?_
  refine Sg.rg ?_
  refine Sg.asg (v := .bool false) (h := ?_)
  first | refine Sg.nl ?_ | refine Sg.nl1 ?_
  refine Sg.gn fun τ1 => ?_
  refine Sg.sq ?_
  refine Sg.sq ?_
  refine Sg.rg ?_
  refine Sg.mv (v := .slice A0 l0.length c0) (h := ?_)
  refine Sg.mv (v := .slice A1 l1.length c1) (h := ?_)
  refine Sg.cl (args := #[.slice A0 l0.length c0, .slice A1 l1.length c1]) (hf := Tryz.func4) (hargs := Sg.a2 (Sg.rs rfl rfl) (Sg.rs rfl rfl)) (h := ?_)
  refine (laws_big.calls A0 c0 l0 A1 c1 l1 true _ hC0 hc0 hC1 hc1 hbig).mono ?_
  rintro _ w1 ⟨rfl, d3⟩
  have b2 := d3.below
  refine ⟨_, _, rfl, (Sg.ps rfl), ?_⟩
  first | refine Sg.nl ?_ | refine Sg.nl1 ?_
  refine Sg.ct rfl rfl ?_
  refine Sg.sq ?_
  refine Sg.rg ?_
  refine Sg.asg (v := .bool true) (h := ?_)
  first | refine Sg.nl ?_ | refine Sg.nl1 ?_
  refine Sg.rt ?_
  exact hQ _ _ _ rfl b2
theorem g4whole (A0 : Option Addr) (c0 : Nat) (l0 : List Int) (A1 : Option Addr) (c1 : Nat) (l1 : List Int) (w : World) (hC0 : Kd.C (Kd.int .u8) w A0 l0.length l0) (hc0 : l0.length ≤ c0) (hC1 : Kd.C (Kd.int .u8) w A1 l1.length l1) (hc1 : l1.length ≤ c1) (τ : Sg.Fr) {Q : Exit → Act → World → Prop} (hQp : ∀ c (a : Act) d v w, Q (.panic c) (a.put d v) w → Q (.panic c) a w) (hQ : ∀ σ' τ' w', σ' 4 = .bool true → Below w.heap.size w w' → Q .ret (Sg.fr 556 (Sg.mix 61 σ' τ')) w') (hbig : laws_big.f l0 l1 = some false) (k : Nat) (hf1 : ∃ children sum apart sets ok products one greatest three count, g4F1 k l0 children sum apart sets ok products one greatest three count) (hf2 : ∃ set_ next seven u years later nine c from_ to_ at_ most eleven, g4F2 k l1 set_ next seven u years later nine c from_ to_ at_ most eleven) : (Code.seq (g4S 0) (Code.seq (g4S 1) (Code.seq (g4S 2) (Code.seq (g4S 3) (Code.seq (g4S 4) (Code.seq (g4S 5) (Code.seq (g4S 6) (Code.seq (g4S 7) (Code.seq (g4S 8) (Code.seq (g4S 9) (Code.seq (g4S 10) (Code.seq (g4S 11) (Code.seq (g4S 12) (Code.seq (g4S 13) (Code.seq (g4S 14) (Code.seq (g4S 15) (Code.seq (g4S 16) (Code.seq (g4S 17) (Code.seq (g4S 18) (Code.seq (g4S 19) (Code.seq (g4S 20) (Code.seq (g4S 21) (Code.seq (g4S 22) (Code.seq (g4S 23) (Code.seq (g4S 24) (Code.seq (g4S 25) (Code.seq (g4S 26) (Code.seq (g4S 27) (g4S 28))))))))))))))))))))))))))))).wp Tryz.prog Q (Sg.fr 556 (Sg.mix 61 (fun i => (#[.slice A0 l0.length c0, .slice A1 l1.length c1] : Array Value).getD i undef) τ)) w := by
  refine Sg.sq ?_
  refine Sg.rg ?_
  refine Sg.asg (v := .bool false) (h := ?_)
  first | refine Sg.nl ?_ | refine Sg.nl1 ?_
  refine Sg.gn fun τ1 => ?_
  refine Sg.sq ?_
  refine Sg.sq ?_
  refine Sg.rg ?_
  refine Sg.mv (v := .slice A0 l0.length c0) (h := ?_)
  refine Sg.mv (v := .slice A1 l1.length c1) (h := ?_)
  refine Sg.cl (args := #[.slice A0 l0.length c0, .slice A1 l1.length c1]) (hf := Tryz.func4) (hargs := Sg.a2 (Sg.rs rfl rfl) (Sg.rs rfl rfl)) (h := ?_)
  refine (laws_big.calls A0 c0 l0 A1 c1 l1 false _ hC0 hc0 hC1 hc1 hbig).mono ?_
  rintro _ w1 ⟨rfl, d3⟩
  have b2 := d3.below
  refine ⟨_, _, rfl, (Sg.ps rfl), ?_⟩
  first | refine Sg.nl ?_ | refine Sg.nl1 ?_
  refine Sg.cf rfl rfl ?_
  first | refine Sg.sk ?_ | refine Sg.sk1 ?_
  refine Sg.gn fun τ2 => ?_
  obtain ⟨children, sum, apart, sets, ok, products, one, greatest, three, count, f1⟩ := hf1
  obtain ⟨set_, next, seven, u, years, later, nine, c, from_, to_, at_, most, eleven, f2⟩ := hf2
  have hb0 := b2
  have f4 := Kd.C_below hC0 b2
  refine g4pA k A0 c0 l0 children sum apart sets ok products one greatest three count _ _ _ rfl f4 hc0 f1.hD f1.hAI f1.hAS f1.hPI f1.hPS f1.hGI f1.hGS f1.hCI f1.hCS f1.hW1 f1.hW2 f1.hOO f1.hO3 f1.hO4 (fun σ1 τ1 w1 hs1 e1 hb1 => ?_)
  refine g4pD k children sum apart sets ok products one greatest three count σ1 τ1 w1 hQp hs1 f1.hO4 f1.hD_ (fun σ2 τ2 w2 k2 hb2 => ?_)
  have hs2 := hs1.keep (fun i _ hi => k2 i (by omega)) hb2
  refine g4pE k children sum apart sets ok products one greatest three count σ2 τ2 w2 hQp hs2 f1.hE_ (fun σ3 τ3 w3 k3 hb3 => ?_)
  have hb := below_step (below_step (below_step hb0 hb1) hb2) hb3
  refine g4pF k A1 c1 l1 set_ next seven u years later nine c from_ to_ at_ most eleven σ3 τ3 w3 ((k3 1 (by decide)).trans ((k2 1 (by decide)).trans (e1.trans rfl))) (Kd.C_below hC1 hb) hc1 f2.hD2 f2.hNI f2.hNS f2.hD3 f2.hLI f2.hLS f2.hD4 f2.hMI f2.hMS f2.hW3 f2.hW4 (fun σ5 τ5 w5 hs5 hb5 => ?_)
  refine g4pH k set_ next seven u years later nine c from_ to_ at_ most eleven σ5 τ5 w5 hQp hs5 f2.h7 (fun σ6 τ6 w6 k6 hb6 => ?_)
  have hs6 := hs5.keep (fun i _ hi => k6 i (by omega)) hb6
  refine g4pI k set_ next seven u years later nine c from_ to_ at_ most eleven σ6 τ6 w6 hQp hs6 f2.h9 (fun σ7 τ7 w7 k7 hb7 => ?_)
  have hs7 := hs6.keep (fun i _ hi => k7 i (by omega)) hb7
  refine g4pJ k set_ next seven u years later nine c from_ to_ at_ most eleven σ7 τ7 w7 hQp hs7 f2.h11 (fun σ8 τ8 w8 k8 hb8 => ?_)
  have hbz := below_step (below_step (below_step (below_step hb hb5) hb6) hb7) hb8
  refine Sg.sq ?_
  refine Sg.rg ?_
  refine Sg.asg (v := .bool true) (h := ?_)
  first | refine Sg.nl ?_ | refine Sg.nl1 ?_
  refine Sg.rt0 ?_
  exact hQ _ _ _ rfl hbz
theorem laws_FnChildrenSummed.walk (P : laws_FnChildrenSummed.Pure) (a0 : Option Addr) (len0 cap0 : Nat) (z0 : List Int) (a1 : Option Addr) (len1 cap1 : Nat) (z1 : List Int) (w : World) (w0 : (a0 = none ∧ len0 = 0 ∧ cap0 = 0 ∧ z0 = []) ∨ ∃ x, a0 = some x ∧ len0 ≤ cap0 ∧ cap0 ≤ maxLen ∧ z0.length = cap0 ∧ (∀ i, i < z0.length → w.cell? (x.add i) = some (.int .u8 (z0.getD i 0))) ∧ ∀ n ∈ z0, (Lit.int .u8 n).wf = true) (y0 : len0 * 1 ≤ 140737488351232) (w1 : (a1 = none ∧ len1 = 0 ∧ cap1 = 0 ∧ z1 = []) ∨ ∃ x, a1 = some x ∧ len1 ≤ cap1 ∧ cap1 ≤ maxLen ∧ z1.length = cap1 ∧ (∀ i, i < z1.length → w.cell? (x.add i) = some (.int .u8 (z1.getD i 0))) ∧ ∀ n ∈ z1, (Lit.int .u8 n).wf = true) (y1 : len1 * 1 ≤ 140737488351232) :
    Calls Tryz.prog 3 #[.slice a0 len0 cap0, .slice a1 len1 cap1] w fun e w' => e = .returned (.bool true) ∧ Below w.heap.size w w' := by
  obtain ⟨l0, rfl, hr0, hm0, hw0, hc0⟩ := ReadsInt.ofRowC w0
  obtain ⟨l1, rfl, hr1, hm1, hw1, hc1⟩ := ReadsInt.ofRowC w1
  have hC0 : Kd.C (Kd.int .u8) w a0 l0.length l0 := Kd.C_of_reads (d := (0 : Int)) (h1 := fun _ => rfl) hr0
  have hC1 : Kd.C (Kd.int .u8) w a1 l1.length l1 := Kd.C_of_reads (d := (0 : Int)) (h1 := fun _ => rfl) hr1
  refine calls_of_wp Tryz.func3 g4body ?_
  rw [Sg.enter (n := 556) (by rw [Tryz.ntmps3]; rfl), Sg.to_mix (m := 61)]
  have hQp : ∀ c (a : Act) d v (w' : World), bodyPost Tryz.prog Tryz.f3 (fun e w' => e = .returned (.bool true) ∧ Below w.heap.size w w') (.panic c) (a.put d v) w' → bodyPost Tryz.prog Tryz.f3 (fun e w' => e = .returned (.bool true) ∧ Below w.heap.size w w') (.panic c) a w' := fun c a d v w' h => by cases d <;> exact h
  have hQ : ∀ σ' τ' (w' : World), σ' 4 = .bool true → Below w.heap.size w w' → bodyPost Tryz.prog Tryz.f3 (fun e w' => e = .returned (.bool true) ∧ Below w.heap.size w w') .ret (Sg.fr 556 (Sg.mix 61 σ' τ')) w' := fun σ' τ' w' h4 hb =>
    bodyPost_ret (v := .bool true) (by rw [results_tmp (t := 4) rfl, Sg.fr_getD (by decide)]; exact congrArg (fun v => Result.ok v w') h4) rfl ⟨rfl, hb⟩
  generalize bodyPost Tryz.prog Tryz.f3 (fun e w' => e = .returned (.bool true) ∧ Below w.heap.size w w') = Q at hQp hQ ⊢
  rcases P l0 l1 hm0 y0 hw0 hm1 y1 hw1 with hbig | ⟨hbig, k, hf1, hf2⟩
  · exact g4early a0 cap0 l0 a1 cap1 l1 w hC0 hc0 hC1 hc1 _ hQ hbig
  · exact g4whole a0 cap0 l0 a1 cap1 l1 w hC0 hc0 hC1 hc1 _ hQp hQ hbig k hf1 hf2

end Go.Proofs.YtjfdehjkdbcneaaGreat.E
