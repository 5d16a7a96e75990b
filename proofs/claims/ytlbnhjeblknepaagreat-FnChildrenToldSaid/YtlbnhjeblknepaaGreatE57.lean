-- WRITTEN by xprint.py, a program of this session that drives the kit's printer: out of the translation. Lean checks it.
import Derived.Test.YtlbnhjeblknepaaGreatE0
import Derived.Test.YtlbnhjeblknepaaGreatE1
import Derived.Test.YtlbnhjeblknepaaGreatEa
import Derived.Test.YtlbnhjeblknepaaGreatEb
import Derived.Test.YtlbnhjeblknepaaGreatE22
import Derived.Test.YtlbnhjeblknepaaGreatE23
import Derived.Test.YtlbnhjeblknepaaGreatE26
import Derived.Test.YtlbnhjeblknepaaGreatE27
import Derived.Test.YtlbnhjeblknepaaGreatE28
import Derived.Test.YtlbnhjeblknepaaGreatE29
import Derived.Test.YtlbnhjeblknepaaGreatE30
import Derived.Test.YtlbnhjeblknepaaGreatE31
import Derived.Test.YtlbnhjeblknepaaGreatE32
import Derived.Test.YtlbnhjeblknepaaGreatE33
import Derived.Test.YtlbnhjeblknepaaGreatE35
import Derived.Test.YtlbnhjeblknepaaGreatE36
import Derived.Test.YtlbnhjeblknepaaGreatE37
import Derived.Test.YtlbnhjeblknepaaGreatE38
import Derived.Test.YtlbnhjeblknepaaGreatE40
import Derived.Test.YtlbnhjeblknepaaGreatE42
import Derived.Test.YtlbnhjeblknepaaGreatE43
import Derived.Test.YtlbnhjeblknepaaGreatE44
import Derived.Test.YtlbnhjeblknepaaGreatE46
import Derived.Test.YtlbnhjeblknepaaGreatE48
import Derived.Test.YtlbnhjeblknepaaGreatE51
import Derived.Test.YtlbnhjeblknepaaGreatE52
import Derived.Test.YtlbnhjeblknepaaGreatE53
import Derived.Test.YtlbnhjeblknepaaGreatE54
import Derived.Test.YtlbnhjeblknepaaGreatE55
import Derived.Test.YtlbnhjeblknepaaGreatE56
import Derived.Test.YtlbnhjeblknepaaGreatWm
namespace Go.Proofs.YtlbnhjeblknepaaGreat.E
open Go.RowKit Go.Proofs.YtlbnhjeblknepaaGreatW.PrintWords Go.Proofs.YtlbnhjeblknepaaGreatW.PrintLast
set_option linter.unusedVariables false
set_option linter.unusedSimpArgs false

-- OURS, BY HAND
/-! ### laws_FnChildrenTold: function 3 -/
-- func laws.FnChildrenTold
-- ext rounds=1 making=1
-- needs laws.big
-- needs spec.DrawToldByOldest
-- needs impl.ToldByOldest
-- needs spec.ToldByOldest
-- needs impl.ToldByYoungest
-- needs spec.ToldByYoungest
-- needs impl.SetsOfProduct
-- needs spec.SetsOfProduct
-- needs impl.CountSets
-- needs spec.CountSets
-- needs impl.SumsOfProduct
-- needs spec.SumsOfProduct
-- needs impl.OpenSums
-- needs spec.OpenSums
-- needs impl.SetsOfBoth
-- needs spec.SetsOfBoth
-- needs impl.DoesTell
-- needs spec.DoesTell
-- needs impl.OneByOldest
-- needs spec.OneByOldest
-- needs impl.HasOldest
-- needs spec.HasOldest
-- needs impl.HasYoungest
-- needs spec.HasYoungest
-- needs impl.TwinsIn
-- needs spec.TwinsIn
-- needs impl.IsSet
-- needs spec.IsSet
-- needs laws.qRows
-- needs laws.qSame
-- needs laws.qOrdered
-- needs laws.qRises
-- needs laws.qHas
-- needs laws.qSum
-- needs laws.qHasRow
-- needs spec.DrawSetsOfBoth
-- needs spec.DrawOneByOldest
-- needs spec.DrawHasOldest
-- seat YtlbnhjeblknepaaGreat
-- import Derived.Test.YtlbnhjeblknepaaGreatSig
set_option maxRecDepth 100000
set_option maxHeartbeats 4000000
noncomputable def g4nth : Nat → Code → Code
  | 0, .seq a _ => a
  | 0, c => c
  | k + 1, .seq _ b => g4nth k b
  | _ + 1, c => c
noncomputable def g4S (i : Nat) : Code := g4nth i (Tryz.f3.body.getD .skip)
/-- The product of the first numbers of a list, step by step. -/
def prodTo (s : List Int) : Nat → Int
  | 0 => 1
  | j + 1 => wrap64 (prodTo s j * rd s ((j : Nat) : Int))
/-- How many of the first lists are such. -/
def cntTo (f : List Int → Bool) (xs : List (List Int)) : Nat → Nat
  | 0 => 0
  | j + 1 => cntTo f xs j + (if f (rd_L2 xs ((j : Nat) : Int)) = true then 1 else 0)
theorem cntTo_le (f : List Int → Bool) (xs : List (List Int)) : ∀ j, cntTo f xs j ≤ j
  | 0 => Nat.le_refl _
  | j + 1 => by
    have := cntTo_le f xs j
    show cntTo f xs j + _ ≤ j + 1
    split <;> omega
theorem cntTo_yes (f : List Int → Bool) (xs : List (List Int)) (j : Nat) (h : true = f (rd_L2 xs ((j : Nat) : Int))) : Value.int .i64 ((cntTo f xs j + 1 : Nat) : Int) = Value.int .i64 ((cntTo f xs (j + 1) : Nat) : Int) := by
  show _ = Value.int .i64 ((cntTo f xs j + (if f (rd_L2 xs ((j : Nat) : Int)) = true then 1 else 0) : Nat) : Int)
  rw [if_pos h.symm]
theorem cntTo_no (f : List Int → Bool) (xs : List (List Int)) (j : Nat) (h : false = f (rd_L2 xs ((j : Nat) : Int))) : Value.int .i64 ((cntTo f xs j : Nat) : Int) = Value.int .i64 ((cntTo f xs (j + 1) : Nat) : Int) := by
  show _ = Value.int .i64 ((cntTo f xs j + (if f (rd_L2 xs ((j : Nat) : Int)) = true then 1 else 0) : Nat) : Int)
  rw [if_neg (by rw [← h]; simp), Nat.add_zero]
/-- The slots and the memory behind a part of the law's calls. -/
def g4St1 (children : Int) (product : Int) (oldest : List (List Int)) (ok : Bool) (youngest : List (List Int)) (sets : List (List Int)) (count : Int) (sums : List Int) (open_ : List Int) (σ : Sg.Fr) (w : World) : Prop := ∃ (A7 : Option Addr) (c7 : Nat) (A11 : Option Addr) (c11 : Nat) (A15 : Option Addr) (c15 : Nat) (A23 : Option Addr) (c23 : Nat) (A27 : Option Addr) (c27 : Nat), (σ 5 = .int .i64 children ∧ σ 6 = .int .i64 product ∧ σ 7 = .slice A7 oldest.length c7 ∧ σ 8 = .bool ok ∧ σ 11 = .slice A11 youngest.length c11 ∧ σ 15 = .slice A15 sets.length c15 ∧ σ 19 = .int .i64 count ∧ σ 23 = .slice A23 sums.length c23 ∧ σ 27 = .slice A27 open_.length c27) ∧ (Kd.C (Kd.slice 3 (Kd.int .i64)) w A7 oldest.length oldest ∧ oldest.length ≤ c7) ∧ (Kd.C (Kd.slice 3 (Kd.int .i64)) w A11 youngest.length youngest ∧ youngest.length ≤ c11) ∧ (Kd.C (Kd.slice 3 (Kd.int .i64)) w A15 sets.length sets ∧ sets.length ≤ c15) ∧ (Kd.C (Kd.int .i64) w A23 sums.length sums ∧ sums.length ≤ c23) ∧ (Kd.C (Kd.int .i64) w A27 open_.length open_ ∧ open_.length ≤ c27)
theorem g4St1.keep {children : Int} {product : Int} {oldest : List (List Int)} {ok : Bool} {youngest : List (List Int)} {sets : List (List Int)} {count : Int} {sums : List Int} {open_ : List Int} {σ σ' : Sg.Fr} {w w' : World} (h : g4St1 children product oldest ok youngest sets count sums open_ σ w) (hs : ∀ i, 5 ≤ i → i ≤ 27 → σ' i = σ i) (hb : Below w.heap.size w w') : g4St1 children product oldest ok youngest sets count sums open_ σ' w' := by
  obtain ⟨A7, c7, A11, c11, A15, c15, A23, c23, A27, c27, ⟨h5, h6, h7, h8, h11, h15, h19, h23, h27⟩, ⟨q7, p7⟩, ⟨q11, p11⟩, ⟨q15, p15⟩, ⟨q23, p23⟩, ⟨q27, p27⟩⟩ := h
  exact ⟨A7, c7, A11, c11, A15, c15, A23, c23, A27, c27, ⟨(hs 5 (by decide) (by decide)).trans h5, (hs 6 (by decide) (by decide)).trans h6, (hs 7 (by decide) (by decide)).trans h7, (hs 8 (by decide) (by decide)).trans h8, (hs 11 (by decide) (by decide)).trans h11, (hs 15 (by decide) (by decide)).trans h15, (hs 19 (by decide) (by decide)).trans h19, (hs 23 (by decide) (by decide)).trans h23, (hs 27 (by decide) (by decide)).trans h27⟩, ⟨Kd.C_below q7 hb, p7⟩, ⟨Kd.C_below q11 hb, p11⟩, ⟨Kd.C_below q15 hb, p15⟩, ⟨Kd.C_below q23 hb, p23⟩, ⟨Kd.C_below q27 hb, p27⟩⟩
/-- The slots and the memory behind a part of the law's calls. -/
def g4St2 (c : Int) (from_ : Int) (to_ : Int) (products : List Int) (fifteen : Bool) (set_ : List Int) (x : Bool) (z : Bool) (twins : Int) (good : Bool) (σ : Sg.Fr) (w : World) : Prop := ∃ (A70 : Option Addr) (c70 : Nat) (A74 : Option Addr) (c74 : Nat), (σ 67 = .int .i64 c ∧ σ 68 = .int .i64 from_ ∧ σ 69 = .int .i64 to_ ∧ σ 70 = .slice A70 products.length c70 ∧ σ 71 = .bool fifteen ∧ σ 74 = .slice A74 set_.length c74 ∧ σ 75 = .bool x ∧ σ 79 = .bool z ∧ σ 83 = .int .i64 twins ∧ σ 84 = .bool good) ∧ (Kd.C (Kd.int .i64) w A70 products.length products ∧ products.length ≤ c70) ∧ (Kd.C (Kd.int .i64) w A74 set_.length set_ ∧ set_.length ≤ c74)
theorem g4St2.keep {c : Int} {from_ : Int} {to_ : Int} {products : List Int} {fifteen : Bool} {set_ : List Int} {x : Bool} {z : Bool} {twins : Int} {good : Bool} {σ σ' : Sg.Fr} {w w' : World} (h : g4St2 c from_ to_ products fifteen set_ x z twins good σ w) (hs : ∀ i, 67 ≤ i → i ≤ 84 → σ' i = σ i) (hb : Below w.heap.size w w') : g4St2 c from_ to_ products fifteen set_ x z twins good σ' w' := by
  obtain ⟨A70, c70, A74, c74, ⟨h67, h68, h69, h70, h71, h74, h75, h79, h83, h84⟩, ⟨q70, p70⟩, ⟨q74, p74⟩⟩ := h
  exact ⟨A70, c70, A74, c74, ⟨(hs 67 (by decide) (by decide)).trans h67, (hs 68 (by decide) (by decide)).trans h68, (hs 69 (by decide) (by decide)).trans h69, (hs 70 (by decide) (by decide)).trans h70, (hs 71 (by decide) (by decide)).trans h71, (hs 74 (by decide) (by decide)).trans h74, (hs 75 (by decide) (by decide)).trans h75, (hs 79 (by decide) (by decide)).trans h79, (hs 83 (by decide) (by decide)).trans h83, (hs 84 (by decide) (by decide)).trans h84⟩, ⟨Kd.C_below q70 hb, p70⟩, ⟨Kd.C_below q74 hb, p74⟩⟩
theorem g4pA (k : Nat) (A0 : Option Addr) (c0 : Nat) (l0 : List Int) (children : Int) (product : Int) (oldest : List (List Int)) (ok : Bool) (youngest : List (List Int)) (sets : List (List Int)) (count : Int) (sums : List Int) (open_ : List Int) (σ τ : Sg.Fr) (w : World) {rest : Code} {Q : Exit → Act → World → Prop} (h0 : σ 0 = .slice A0 l0.length c0) (hC0 : Kd.C (Kd.int .u8) w A0 l0.length l0) (hc0 : l0.length ≤ c0)
    (hD : spec_DrawToldByOldest.f k l0 = some (children, product)) (hOI : ToldF true children product oldest ok) (hOS : spec_ToldByOldest.f children product = some (oldest, ok)) (hYI : ToldF false children product youngest ok) (hYS : spec_ToldByYoungest.f children product = some (youngest, ok)) (hSI : impl_SetsOfProduct.f children product = some (sets, ok)) (hSS : spec_SetsOfProduct.f children product = some (sets, ok)) (hCI : impl_CountSets.f children product = some (count, ok)) (hCS : spec_CountSets.f children product = some (count, ok)) (hUI : impl_SumsOfProduct.f k children product = some (sums, ok)) (hUS : spec_SumsOfProduct.f k children product = some (sums, ok)) (hNI : impl_OpenSums.f k children product = some (open_, ok)) (hNS : spec_OpenSums.f k children product = some (open_, ok)) (hW1 : laws_qRows.f k oldest oldest = some true) (hW2 : laws_qRows.f k youngest youngest = some true) (hW3 : laws_qRows.f k sets sets = some true) (hW4 : laws_qSame.f k sums sums = some true) (hW5 : laws_qSame.f k open_ open_ = some true)
    (hK : ∀ σ' τ' w', g4St1 children product oldest ok youngest sets count sums open_ σ' w' → σ' 1 = σ 1 → Below w.heap.size w w' → rest.wp Tryz.prog Q (Sg.fr 728 (Sg.mix 91 σ' τ')) w') :
    (Code.seq (g4S 2) (Code.seq (g4S 3) (Code.seq (g4S 4) (Code.seq (g4S 5) (Code.seq (g4S 6) (Code.seq (g4S 7) (Code.seq (g4S 8) (Code.seq (g4S 9) (Code.seq (g4S 10) (Code.seq (g4S 11) (Code.seq (g4S 12) (Code.seq (g4S 13) (Code.seq (g4S 14) (Code.seq (g4S 15) rest)))))))))))))).wp Tryz.prog Q (Sg.fr 728 (Sg.mix 91 σ τ)) w := by
  refine Sg.sq ?_
  refine Sg.rg ?_
  refine Sg.mv (v := .slice A0 l0.length c0) (hs := Sg.rs rfl h0) (h := ?_)
  refine Sg.cl (args := #[.slice A0 l0.length c0]) (hf := Tryz.func5) (hargs := Sg.a1 (Sg.rs rfl rfl)) (h := ?_)
  refine (spec_DrawToldByOldest.calls k A0 c0 l0 children product _ hC0 hc0 hD).mono ?_
  rintro _ w1 ⟨rfl, b2⟩
  refine ⟨_, _, rfl, (Sg.ps rfl), ?_⟩
  refine Sg.mv (v := .tuple #[.int .i64 children, .int .i64 product]) (h := ?_)
  refine Sg.ext (v := .int .i64 children) (h := ?_)
  refine Sg.ext (v := .int .i64 product) (h := ?_)
  refine Sg.asg (v := .int .i64 children) (h := ?_)
  refine Sg.asg (v := .int .i64 product) (h := ?_)
  first | refine Sg.nl ?_ | refine Sg.nl1 ?_
  refine Sg.gn fun τ1 => ?_
  refine Sg.sq ?_
  refine Sg.rg ?_
  refine Sg.mv (v := .int .i64 children) (h := ?_)
  refine Sg.mv (v := .int .i64 product) (h := ?_)
  refine Sg.cl (args := #[.int .i64 children, .int .i64 product]) (hf := Tryz.func6) (hargs := Sg.a2 (Sg.rs rfl rfl) (Sg.rs rfl rfl)) (h := ?_)
  refine (impl_ToldByOldestS.calls children product oldest ok _ hOI).mono ?_
  rintro _ w3 ⟨v5, rfl, r6, b4⟩
  obtain ⟨A7, c8, rfl, f10, f9⟩ := Kd.S_reads r6
  refine ⟨_, _, rfl, (Sg.ps rfl), ?_⟩
  refine Sg.mv (v := .tuple #[.slice A7 oldest.length c8, .bool ok]) (h := ?_)
  refine Sg.ext (v := .slice A7 oldest.length c8) (h := ?_)
  refine Sg.ext (v := .bool ok) (h := ?_)
  refine Sg.asg (v := .slice A7 oldest.length c8) (h := ?_)
  refine Sg.asg (v := .bool ok) (h := ?_)
  first | refine Sg.nl ?_ | refine Sg.nl1 ?_
  refine Sg.gn fun τ2 => ?_
  refine Sg.sq ?_
  refine Sg.rg ?_
  refine Sg.mv (v := .int .i64 children) (h := ?_)
  refine Sg.mv (v := .int .i64 product) (h := ?_)
  refine Sg.cl (args := #[.int .i64 children, .int .i64 product]) (hf := Tryz.func7) (hargs := Sg.a2 (Sg.rs rfl rfl) (Sg.rs rfl rfl)) (h := ?_)
  refine (spec_ToldByOldest.calls children product oldest ok _ hOS).mono ?_
  rintro _ w11 ⟨A15, c16, rfl, f18, f17, b12⟩
  refine ⟨_, _, rfl, (Sg.ps rfl), ?_⟩
  refine Sg.mv (v := .tuple #[.slice A15 oldest.length c16, .bool ok]) (h := ?_)
  refine Sg.ext (v := .slice A15 oldest.length c16) (h := ?_)
  refine Sg.ext (v := .bool ok) (h := ?_)
  refine Sg.asg (v := .slice A15 oldest.length c16) (h := ?_)
  refine Sg.asg (v := .bool ok) (h := ?_)
  first | refine Sg.nl ?_ | refine Sg.nl1 ?_
  refine Sg.gn fun τ3 => ?_
  refine Sg.sq ?_
  refine Sg.rg ?_
  refine Sg.mv (v := .int .i64 children) (h := ?_)
  refine Sg.mv (v := .int .i64 product) (h := ?_)
  refine Sg.cl (args := #[.int .i64 children, .int .i64 product]) (hf := Tryz.func8) (hargs := Sg.a2 (Sg.rs rfl rfl) (Sg.rs rfl rfl)) (h := ?_)
  refine (impl_ToldByYoungestS.calls children product youngest ok _ hYI).mono ?_
  rintro _ w19 ⟨v21, rfl, r22, b20⟩
  obtain ⟨A23, c24, rfl, f26, f25⟩ := Kd.S_reads r22
  refine ⟨_, _, rfl, (Sg.ps rfl), ?_⟩
  refine Sg.mv (v := .tuple #[.slice A23 youngest.length c24, .bool ok]) (h := ?_)
  refine Sg.ext (v := .slice A23 youngest.length c24) (h := ?_)
  refine Sg.ext (v := .bool ok) (h := ?_)
  refine Sg.asg (v := .slice A23 youngest.length c24) (h := ?_)
  refine Sg.asg (v := .bool ok) (h := ?_)
  first | refine Sg.nl ?_ | refine Sg.nl1 ?_
  refine Sg.gn fun τ4 => ?_
  refine Sg.sq ?_
  refine Sg.rg ?_
  refine Sg.mv (v := .int .i64 children) (h := ?_)
  refine Sg.mv (v := .int .i64 product) (h := ?_)
  refine Sg.cl (args := #[.int .i64 children, .int .i64 product]) (hf := Tryz.func9) (hargs := Sg.a2 (Sg.rs rfl rfl) (Sg.rs rfl rfl)) (h := ?_)
  refine (spec_ToldByYoungest.calls children product youngest ok _ hYS).mono ?_
  rintro _ w27 ⟨A31, c32, rfl, f34, f33, b28⟩
  refine ⟨_, _, rfl, (Sg.ps rfl), ?_⟩
  refine Sg.mv (v := .tuple #[.slice A31 youngest.length c32, .bool ok]) (h := ?_)
  refine Sg.ext (v := .slice A31 youngest.length c32) (h := ?_)
  refine Sg.ext (v := .bool ok) (h := ?_)
  refine Sg.asg (v := .slice A31 youngest.length c32) (h := ?_)
  refine Sg.asg (v := .bool ok) (h := ?_)
  first | refine Sg.nl ?_ | refine Sg.nl1 ?_
  refine Sg.gn fun τ5 => ?_
  refine Sg.sq ?_
  refine Sg.rg ?_
  refine Sg.mv (v := .int .i64 children) (h := ?_)
  refine Sg.mv (v := .int .i64 product) (h := ?_)
  refine Sg.cl (args := #[.int .i64 children, .int .i64 product]) (hf := Tryz.func10) (hargs := Sg.a2 (Sg.rs rfl rfl) (Sg.rs rfl rfl)) (h := ?_)
  refine (impl_SetsOfProduct.calls children product sets ok _ hSI).mono ?_
  rintro _ w35 ⟨v37, rfl, r38, b36⟩
  obtain ⟨A39, c40, rfl, f42, f41⟩ := Kd.S_reads r38
  refine ⟨_, _, rfl, (Sg.ps rfl), ?_⟩
  refine Sg.mv (v := .tuple #[.slice A39 sets.length c40, .bool ok]) (h := ?_)
  refine Sg.ext (v := .slice A39 sets.length c40) (h := ?_)
  refine Sg.ext (v := .bool ok) (h := ?_)
  refine Sg.asg (v := .slice A39 sets.length c40) (h := ?_)
  refine Sg.asg (v := .bool ok) (h := ?_)
  first | refine Sg.nl ?_ | refine Sg.nl1 ?_
  refine Sg.gn fun τ6 => ?_
  refine Sg.sq ?_
  refine Sg.rg ?_
  refine Sg.mv (v := .int .i64 children) (h := ?_)
  refine Sg.mv (v := .int .i64 product) (h := ?_)
  refine Sg.cl (args := #[.int .i64 children, .int .i64 product]) (hf := Tryz.func11) (hargs := Sg.a2 (Sg.rs rfl rfl) (Sg.rs rfl rfl)) (h := ?_)
  refine (spec_SetsOfProduct.calls children product sets ok _ hSS).mono ?_
  rintro _ w43 ⟨v45, rfl, r46, b44⟩
  obtain ⟨A47, c48, rfl, f50, f49⟩ := Kd.S_reads r46
  refine ⟨_, _, rfl, (Sg.ps rfl), ?_⟩
  refine Sg.mv (v := .tuple #[.slice A47 sets.length c48, .bool ok]) (h := ?_)
  refine Sg.ext (v := .slice A47 sets.length c48) (h := ?_)
  refine Sg.ext (v := .bool ok) (h := ?_)
  refine Sg.asg (v := .slice A47 sets.length c48) (h := ?_)
  refine Sg.asg (v := .bool ok) (h := ?_)
  first | refine Sg.nl ?_ | refine Sg.nl1 ?_
  refine Sg.gn fun τ7 => ?_
  refine Sg.sq ?_
  refine Sg.rg ?_
  refine Sg.mv (v := .int .i64 children) (h := ?_)
  refine Sg.mv (v := .int .i64 product) (h := ?_)
  refine Sg.cl (args := #[.int .i64 children, .int .i64 product]) (hf := Tryz.func12) (hargs := Sg.a2 (Sg.rs rfl rfl) (Sg.rs rfl rfl)) (h := ?_)
  refine (impl_CountSets.calls children product count ok _ hCI).mono ?_
  rintro _ w51 ⟨rfl, b52⟩
  refine ⟨_, _, rfl, (Sg.ps rfl), ?_⟩
  refine Sg.mv (v := .tuple #[.int .i64 count, .bool ok]) (h := ?_)
  refine Sg.ext (v := .int .i64 count) (h := ?_)
  refine Sg.ext (v := .bool ok) (h := ?_)
  refine Sg.asg (v := .int .i64 count) (h := ?_)
  refine Sg.asg (v := .bool ok) (h := ?_)
  first | refine Sg.nl ?_ | refine Sg.nl1 ?_
  refine Sg.gn fun τ8 => ?_
  refine Sg.sq ?_
  refine Sg.rg ?_
  refine Sg.mv (v := .int .i64 children) (h := ?_)
  refine Sg.mv (v := .int .i64 product) (h := ?_)
  refine Sg.cl (args := #[.int .i64 children, .int .i64 product]) (hf := Tryz.func13) (hargs := Sg.a2 (Sg.rs rfl rfl) (Sg.rs rfl rfl)) (h := ?_)
  refine (spec_CountSets.calls children product count ok _ hCS).mono ?_
  rintro _ w53 ⟨rfl, b54⟩
  refine ⟨_, _, rfl, (Sg.ps rfl), ?_⟩
  refine Sg.mv (v := .tuple #[.int .i64 count, .bool ok]) (h := ?_)
  refine Sg.ext (v := .int .i64 count) (h := ?_)
  refine Sg.ext (v := .bool ok) (h := ?_)
  refine Sg.asg (v := .int .i64 count) (h := ?_)
  refine Sg.asg (v := .bool ok) (h := ?_)
  first | refine Sg.nl ?_ | refine Sg.nl1 ?_
  refine Sg.gn fun τ9 => ?_
  refine Sg.sq ?_
  refine Sg.rg ?_
  refine Sg.mv (v := .int .i64 children) (h := ?_)
  refine Sg.mv (v := .int .i64 product) (h := ?_)
  refine Sg.cl (args := #[.int .i64 children, .int .i64 product]) (hf := Tryz.func14) (hargs := Sg.a2 (Sg.rs rfl rfl) (Sg.rs rfl rfl)) (h := ?_)
  refine (impl_SumsOfProduct.calls k children product sums ok _ hUI).mono ?_
  rintro _ w55 ⟨v57, rfl, r58, b56⟩
  obtain ⟨A59, c60, rfl, f62, f61⟩ := Kd.R_reads r58
  refine ⟨_, _, rfl, (Sg.ps rfl), ?_⟩
  refine Sg.mv (v := .tuple #[.slice A59 sums.length c60, .bool ok]) (h := ?_)
  refine Sg.ext (v := .slice A59 sums.length c60) (h := ?_)
  refine Sg.ext (v := .bool ok) (h := ?_)
  refine Sg.asg (v := .slice A59 sums.length c60) (h := ?_)
  refine Sg.asg (v := .bool ok) (h := ?_)
  first | refine Sg.nl ?_ | refine Sg.nl1 ?_
  refine Sg.gn fun τ10 => ?_
  refine Sg.sq ?_
  refine Sg.rg ?_
  refine Sg.mv (v := .int .i64 children) (h := ?_)
  refine Sg.mv (v := .int .i64 product) (h := ?_)
  refine Sg.cl (args := #[.int .i64 children, .int .i64 product]) (hf := Tryz.func15) (hargs := Sg.a2 (Sg.rs rfl rfl) (Sg.rs rfl rfl)) (h := ?_)
  refine (spec_SumsOfProduct.calls k children product sums ok _ hUS).mono ?_
  rintro _ w63 ⟨v65, rfl, r66, b64⟩
  obtain ⟨A67, c68, rfl, f70, f69⟩ := Kd.R_reads r66
  refine ⟨_, _, rfl, (Sg.ps rfl), ?_⟩
  refine Sg.mv (v := .tuple #[.slice A67 sums.length c68, .bool ok]) (h := ?_)
  refine Sg.ext (v := .slice A67 sums.length c68) (h := ?_)
  refine Sg.ext (v := .bool ok) (h := ?_)
  refine Sg.asg (v := .slice A67 sums.length c68) (h := ?_)
  refine Sg.asg (v := .bool ok) (h := ?_)
  first | refine Sg.nl ?_ | refine Sg.nl1 ?_
  refine Sg.gn fun τ11 => ?_
  refine Sg.sq ?_
  refine Sg.rg ?_
  refine Sg.mv (v := .int .i64 children) (h := ?_)
  refine Sg.mv (v := .int .i64 product) (h := ?_)
  refine Sg.cl (args := #[.int .i64 children, .int .i64 product]) (hf := Tryz.func16) (hargs := Sg.a2 (Sg.rs rfl rfl) (Sg.rs rfl rfl)) (h := ?_)
  refine (impl_OpenSums.calls k children product open_ ok _ hNI).mono ?_
  rintro _ w71 ⟨v73, rfl, r74, b72⟩
  obtain ⟨A75, c76, rfl, f78, f77⟩ := Kd.R_reads r74
  refine ⟨_, _, rfl, (Sg.ps rfl), ?_⟩
  refine Sg.mv (v := .tuple #[.slice A75 open_.length c76, .bool ok]) (h := ?_)
  refine Sg.ext (v := .slice A75 open_.length c76) (h := ?_)
  refine Sg.ext (v := .bool ok) (h := ?_)
  refine Sg.asg (v := .slice A75 open_.length c76) (h := ?_)
  refine Sg.asg (v := .bool ok) (h := ?_)
  first | refine Sg.nl ?_ | refine Sg.nl1 ?_
  refine Sg.gn fun τ12 => ?_
  refine Sg.sq ?_
  refine Sg.rg ?_
  refine Sg.mv (v := .int .i64 children) (h := ?_)
  refine Sg.mv (v := .int .i64 product) (h := ?_)
  refine Sg.cl (args := #[.int .i64 children, .int .i64 product]) (hf := Tryz.func17) (hargs := Sg.a2 (Sg.rs rfl rfl) (Sg.rs rfl rfl)) (h := ?_)
  refine (spec_OpenSums.calls k children product open_ ok _ hNS).mono ?_
  rintro _ w79 ⟨v81, rfl, r82, b80⟩
  obtain ⟨A83, c84, rfl, f86, f85⟩ := Kd.R_reads r82
  refine ⟨_, _, rfl, (Sg.ps rfl), ?_⟩
  refine Sg.mv (v := .tuple #[.slice A83 open_.length c84, .bool ok]) (h := ?_)
  refine Sg.ext (v := .slice A83 open_.length c84) (h := ?_)
  refine Sg.ext (v := .bool ok) (h := ?_)
  refine Sg.asg (v := .slice A83 open_.length c84) (h := ?_)
  refine Sg.asg (v := .bool ok) (h := ?_)
  first | refine Sg.nl ?_ | refine Sg.nl1 ?_
  refine Sg.gn fun τ13 => ?_
  refine Sg.sq ?_
  refine Sg.sq ?_
  refine Sg.rg ?_
  refine Sg.mv (v := .bool ok) (h := ?_)
  refine Sg.mv (v := .bool ok) (h := ?_)
  refine Sg.bneq (c := false) (hu := Tryz.underlying4) (h := ?_)
  refine Sg.mv (v := .bool false) (h := ?_)
  refine Sg.mv (v := .slice A7 oldest.length c8) (hw := Sg.wy (d := 174) rfl rfl rfl) (h := ?_)
  refine Sg.mv (v := .slice A15 oldest.length c16) (hw := Sg.wy (d := 174) rfl rfl rfl) (h := ?_)
  refine Sg.cl (args := #[.slice A7 oldest.length c8, .slice A15 oldest.length c16]) (hf := Tryz.func18) (hw := Sg.wy (d := 174) rfl rfl rfl) (hargs := Sg.a2 (Sg.rs rfl rfl) (Sg.rs rfl rfl)) (h := ?_)
  have f87 := Kd.C_below f9 (below_step (below_step (below_step (below_step (below_step (below_step (below_step (below_step (below_step (below_step b12 b20) b28) b36) b44) b52) b54) b56) b64) b72) b80)
  have f88 := Kd.C_below f17 (below_step (below_step (below_step (below_step (below_step (below_step (below_step (below_step (below_step b20 b28) b36) b44) b52) b54) b56) b64) b72) b80)
  refine (laws_qRows.calls k A7 c8 oldest A15 c16 oldest true _ f87 f10 f88 f18 hW1).mono ?_
  rintro _ w89 ⟨rfl, d91⟩
  have b90 := d91.below
  refine ⟨_, _, rfl, (Sg.ps rfl), ?_⟩
  refine Sg.nt (b := true) (hw := Sg.wy (d := 174) rfl rfl rfl) (h := ?_)
  refine Sg.pk (v := .bool false) (h := ?_)
  refine Sg.mv (v := .bool false) (h := ?_)
  refine Sg.mv (v := .bool ok) (hw := Sg.wy (d := 180) rfl rfl rfl) (h := ?_)
  refine Sg.mv (v := .bool ok) (hw := Sg.wy (d := 180) rfl rfl rfl) (h := ?_)
  refine Sg.bneq (c := false) (hu := Tryz.underlying4) (hw := Sg.wy (d := 180) rfl rfl rfl) (h := ?_)
  refine Sg.pk (v := .bool false) (h := ?_)
  refine Sg.mv (v := .bool false) (h := ?_)
  refine Sg.mv (v := .slice A23 youngest.length c24) (hw := Sg.wy (d := 185) rfl rfl rfl) (h := ?_)
  refine Sg.mv (v := .slice A31 youngest.length c32) (hw := Sg.wy (d := 185) rfl rfl rfl) (h := ?_)
  refine Sg.cl (args := #[.slice A23 youngest.length c24, .slice A31 youngest.length c32]) (hf := Tryz.func18) (hw := Sg.wy (d := 185) rfl rfl rfl) (hargs := Sg.a2 (Sg.rs rfl rfl) (Sg.rs rfl rfl)) (h := ?_)
  have f92 := Kd.C_below f25 (below_step (below_step (below_step (below_step (below_step (below_step (below_step (below_step (below_step b28 b36) b44) b52) b54) b56) b64) b72) b80) b90)
  have f93 := Kd.C_below f33 (below_step (below_step (below_step (below_step (below_step (below_step (below_step (below_step b36 b44) b52) b54) b56) b64) b72) b80) b90)
  refine (laws_qRows.calls k A23 c24 youngest A31 c32 youngest true _ f92 f26 f93 f34 hW2).mono ?_
  rintro _ w94 ⟨rfl, d96⟩
  have b95 := d96.below
  refine ⟨_, _, rfl, (Sg.ps rfl), ?_⟩
  refine Sg.nt (b := true) (hw := Sg.wy (d := 185) rfl rfl rfl) (h := ?_)
  refine Sg.pk (v := .bool false) (h := ?_)
  refine Sg.mv (v := .bool false) (h := ?_)
  refine Sg.mv (v := .bool ok) (hw := Sg.wy (d := 191) rfl rfl rfl) (h := ?_)
  refine Sg.mv (v := .bool ok) (hw := Sg.wy (d := 191) rfl rfl rfl) (h := ?_)
  refine Sg.bneq (c := false) (hu := Tryz.underlying4) (hw := Sg.wy (d := 191) rfl rfl rfl) (h := ?_)
  refine Sg.pk (v := .bool false) (h := ?_)
  refine Sg.mv (v := .bool false) (h := ?_)
  refine Sg.mv (v := .slice A39 sets.length c40) (hw := Sg.wy (d := 196) rfl rfl rfl) (h := ?_)
  refine Sg.mv (v := .slice A47 sets.length c48) (hw := Sg.wy (d := 196) rfl rfl rfl) (h := ?_)
  refine Sg.cl (args := #[.slice A39 sets.length c40, .slice A47 sets.length c48]) (hf := Tryz.func18) (hw := Sg.wy (d := 196) rfl rfl rfl) (hargs := Sg.a2 (Sg.rs rfl rfl) (Sg.rs rfl rfl)) (h := ?_)
  have f97 := Kd.C_below f41 (below_step (below_step (below_step (below_step (below_step (below_step (below_step (below_step b44 b52) b54) b56) b64) b72) b80) b90) b95)
  have f98 := Kd.C_below f49 (below_step (below_step (below_step (below_step (below_step (below_step (below_step b52 b54) b56) b64) b72) b80) b90) b95)
  refine (laws_qRows.calls k A39 c40 sets A47 c48 sets true _ f97 f42 f98 f50 hW3).mono ?_
  rintro _ w99 ⟨rfl, d101⟩
  have b100 := d101.below
  refine ⟨_, _, rfl, (Sg.ps rfl), ?_⟩
  refine Sg.nt (b := true) (hw := Sg.wy (d := 196) rfl rfl rfl) (h := ?_)
  refine Sg.pk (v := .bool false) (h := ?_)
  refine Sg.mv (v := .bool false) (h := ?_)
  refine Sg.mv (v := .bool ok) (hw := Sg.wy (d := 202) rfl rfl rfl) (h := ?_)
  refine Sg.mv (v := .bool ok) (hw := Sg.wy (d := 202) rfl rfl rfl) (h := ?_)
  refine Sg.bneq (c := false) (hu := Tryz.underlying4) (hw := Sg.wy (d := 202) rfl rfl rfl) (h := ?_)
  refine Sg.pk (v := .bool false) (h := ?_)
  refine Sg.mv (v := .bool false) (h := ?_)
  refine Sg.mv (v := .int .i64 count) (hw := Sg.wy (d := 207) rfl rfl rfl) (h := ?_)
  refine Sg.mv (v := .int .i64 count) (hw := Sg.wy (d := 207) rfl rfl rfl) (h := ?_)
  refine Sg.ineq (c := false) (hw := Sg.wy (d := 207) rfl rfl rfl) (h := ?_)
  refine Sg.pk (v := .bool false) (h := ?_)
  refine Sg.mv (v := .bool false) (h := ?_)
  refine Sg.mv (v := .bool ok) (hw := Sg.wy (d := 212) rfl rfl rfl) (h := ?_)
  refine Sg.mv (v := .bool ok) (hw := Sg.wy (d := 212) rfl rfl rfl) (h := ?_)
  refine Sg.bneq (c := false) (hu := Tryz.underlying4) (hw := Sg.wy (d := 212) rfl rfl rfl) (h := ?_)
  refine Sg.pk (v := .bool false) (h := ?_)
  refine Sg.mv (v := .bool false) (h := ?_)
  refine Sg.mv (v := .slice A59 sums.length c60) (hw := Sg.wy (d := 217) rfl rfl rfl) (h := ?_)
  refine Sg.mv (v := .slice A67 sums.length c68) (hw := Sg.wy (d := 217) rfl rfl rfl) (h := ?_)
  refine Sg.cl (args := #[.slice A59 sums.length c60, .slice A67 sums.length c68]) (hf := Tryz.func19) (hw := Sg.wy (d := 217) rfl rfl rfl) (hargs := Sg.a2 (Sg.rs rfl rfl) (Sg.rs rfl rfl)) (h := ?_)
  have f102 := Kd.C_below f61 (below_step (below_step (below_step (below_step (below_step b64 b72) b80) b90) b95) b100)
  have f103 := Kd.C_below f69 (below_step (below_step (below_step (below_step b72 b80) b90) b95) b100)
  refine (laws_qSame.calls k A59 c60 sums A67 c68 sums true _ f102 f62 f103 f70 hW4).mono ?_
  rintro _ w104 ⟨rfl, d106⟩
  have b105 := d106.below
  refine ⟨_, _, rfl, (Sg.ps rfl), ?_⟩
  refine Sg.nt (b := true) (hw := Sg.wy (d := 217) rfl rfl rfl) (h := ?_)
  refine Sg.pk (v := .bool false) (h := ?_)
  refine Sg.mv (v := .bool false) (h := ?_)
  refine Sg.mv (v := .bool ok) (hw := Sg.wy (d := 223) rfl rfl rfl) (h := ?_)
  refine Sg.mv (v := .bool ok) (hw := Sg.wy (d := 223) rfl rfl rfl) (h := ?_)
  refine Sg.bneq (c := false) (hu := Tryz.underlying4) (hw := Sg.wy (d := 223) rfl rfl rfl) (h := ?_)
  refine Sg.pk (v := .bool false) (h := ?_)
  refine Sg.mv (v := .bool false) (h := ?_)
  refine Sg.mv (v := .slice A75 open_.length c76) (hw := Sg.wy (d := 228) rfl rfl rfl) (h := ?_)
  refine Sg.mv (v := .slice A83 open_.length c84) (hw := Sg.wy (d := 228) rfl rfl rfl) (h := ?_)
  refine Sg.cl (args := #[.slice A75 open_.length c76, .slice A83 open_.length c84]) (hf := Tryz.func19) (hw := Sg.wy (d := 228) rfl rfl rfl) (hargs := Sg.a2 (Sg.rs rfl rfl) (Sg.rs rfl rfl)) (h := ?_)
  have f107 := Kd.C_below f77 (below_step (below_step (below_step (below_step b80 b90) b95) b100) b105)
  have f108 := Kd.C_below f85 (below_step (below_step (below_step b90 b95) b100) b105)
  refine (laws_qSame.calls k A75 c76 open_ A83 c84 open_ true _ f107 f78 f108 f86 hW5).mono ?_
  rintro _ w109 ⟨rfl, d111⟩
  have b110 := d111.below
  refine ⟨_, _, rfl, (Sg.ps rfl), ?_⟩
  refine Sg.nt (b := true) (hw := Sg.wy (d := 228) rfl rfl rfl) (h := ?_)
  refine Sg.pk (v := .bool false) (h := ?_)
  refine Sg.mv (v := .bool false) (h := ?_)
  refine Sg.mv (v := .bool ok) (hw := Sg.wy (d := 234) rfl rfl rfl) (h := ?_)
  refine Sg.mv (v := .bool ok) (hw := Sg.wy (d := 234) rfl rfl rfl) (h := ?_)
  refine Sg.bneq (c := false) (hu := Tryz.underlying4) (hw := Sg.wy (d := 234) rfl rfl rfl) (h := ?_)
  refine Sg.pk (v := .bool false) (h := ?_)
  refine Sg.mv (v := .bool false) (h := ?_)
  refine Sg.mv (v := .bool ok) (hw := Sg.wy (d := 239) rfl rfl rfl) (h := ?_)
  refine Sg.mv (v := .bool ok) (hw := Sg.wy (d := 239) rfl rfl rfl) (h := ?_)
  refine Sg.bneq (c := false) (hu := Tryz.underlying4) (hw := Sg.wy (d := 239) rfl rfl rfl) (h := ?_)
  refine Sg.pk (v := .bool false) (h := ?_)
  refine Sg.mv (v := .bool false) (h := ?_)
  refine Sg.mv (v := .bool ok) (hw := Sg.wy (d := 244) rfl rfl rfl) (h := ?_)
  refine Sg.mv (v := .bool ok) (hw := Sg.wy (d := 244) rfl rfl rfl) (h := ?_)
  refine Sg.bneq (c := false) (hu := Tryz.underlying4) (hw := Sg.wy (d := 244) rfl rfl rfl) (h := ?_)
  refine Sg.pk (v := .bool false) (h := ?_)
  refine Sg.mv (v := .bool false) (h := ?_)
  refine Sg.mv (v := .bool ok) (hw := Sg.wy (d := 249) rfl rfl rfl) (h := ?_)
  refine Sg.mv (v := .bool ok) (hw := Sg.wy (d := 249) rfl rfl rfl) (h := ?_)
  refine Sg.bneq (c := false) (hu := Tryz.underlying4) (hw := Sg.wy (d := 249) rfl rfl rfl) (h := ?_)
  refine Sg.pk (v := .bool false) (h := ?_)
  refine Sg.mv (v := .bool false) (h := ?_)
  refine Sg.mv (v := .bool ok) (hw := Sg.wy (d := 254) rfl rfl rfl) (h := ?_)
  refine Sg.mv (v := .bool ok) (hw := Sg.wy (d := 254) rfl rfl rfl) (h := ?_)
  refine Sg.bneq (c := false) (hu := Tryz.underlying4) (hw := Sg.wy (d := 254) rfl rfl rfl) (h := ?_)
  refine Sg.pk (v := .bool false) (h := ?_)
  first | refine Sg.nl ?_ | refine Sg.nl1 ?_
  refine Sg.cf rfl rfl ?_
  first | refine Sg.sk ?_ | refine Sg.sk1 ?_
  refine Sg.gn fun τ14 => ?_
  have f112 := Kd.C_below f87 (below_step (below_step (below_step (below_step b90 b95) b100) b105) b110)
  have f113 := Kd.C_below f92 (below_step (below_step (below_step b95 b100) b105) b110)
  have f114 := Kd.C_below f97 (below_step (below_step b100 b105) b110)
  have f115 := Kd.C_below f102 (below_step b105 b110)
  have f116 := Kd.C_below f107 b110
  exact hK _ _ _ ⟨A7, c8, A23, c24, A39, c40, A59, c60, A75, c76, ⟨rfl, rfl, rfl, rfl, rfl, rfl, rfl, rfl, rfl⟩, ⟨f112, f10⟩, ⟨f113, f26⟩, ⟨f114, f42⟩, ⟨f115, f62⟩, ⟨f116, f78⟩⟩ ((Sg.un (by omega)).trans ((Sg.un (by omega)).trans ((Sg.un (by omega)).trans ((Sg.un (by omega)).trans ((Sg.un (by omega)).trans ((Sg.un (by omega)).trans ((Sg.un (by omega)).trans ((Sg.un (by omega)).trans ((Sg.un (by omega)).trans ((Sg.un (by omega)).trans ((Sg.un (by omega)).trans ((Sg.un (by omega)).trans ((Sg.un (by omega)).trans ((Sg.un (by omega)).trans ((Sg.un (by omega)).trans ((Sg.un (by omega)).trans ((Sg.un (by omega)).trans ((Sg.un (by omega)).trans ((Sg.un (by omega)).trans ((Sg.un (by omega)).trans ((Sg.un (by omega)).trans ((Sg.un (by omega)).trans ((Sg.un (by omega)).trans ((Sg.un (by omega)).trans ((Sg.un (by omega)).trans ((Sg.un (by omega)))))))))))))))))))))))))))) (below_step (below_step (below_step (below_step (below_step (below_step (below_step (below_step (below_step (below_step (below_step (below_step (below_step (below_step (below_step (below_step (below_step b2 b4) b12) b20) b28) b36) b44) b52) b54) b56) b64) b72) b80) b90) b95) b100) b105) b110)
theorem g4pD (k : Nat) (children : Int) (product : Int) (oldest : List (List Int)) (ok : Bool) (youngest : List (List Int)) (sets : List (List Int)) (count : Int) (sums : List Int) (open_ : List Int) (σ τ : Sg.Fr) (w : World) {rest : Code} {Q : Exit → Act → World → Prop} (hQp : ∀ c (a : Act) d v w, Q (.panic c) (a.put d v) w → Q (.panic c) a w) (hSt : g4St1 children product oldest ok youngest sets count sums open_ σ w)
    (hD_ : ok = true → ((sets.length : Nat) : Int) = count ∧ laws_qOrdered.f k sets = some true ∧ laws_qOrdered.f k oldest = some true ∧ laws_qOrdered.f k youngest = some true ∧ laws_qRises.f k sums = some true ∧ laws_qRises.f k open_ = some true ∧ sets.length ≤ 1000000 ∧ sums.length ≤ 1000000 ∧
      (∀ i : Nat, i < sets.length → ∃ (s : List Int) (v : Int), rd_L2 sets ((i : Nat) : Int) = s ∧ ((s.length : Nat) : Int) = children ∧ s.length ≤ 4 ∧ prodTo s s.length = product ∧ impl_IsSet.f k s = some true ∧ laws_qSum.f k s = some v ∧ laws_qHas.f k sums v = some true) ∧
      ∀ i : Nat, i < sums.length → ∃ (sum : Int) (both : List (List Int)) (tells op g2 g3 : Bool), rd sums ((i : Nat) : Int) = sum ∧ impl_SetsOfBoth.f children product sum = some (both, true) ∧ impl_DoesTell.f children product sum = some (tells, true) ∧ (0 < both.length ∧ both.length ≤ 1000000) ∧
        (((both.length : Nat) : Int) = 1 ↔ tells = true) ∧ laws_qHas.f k open_ sum = some op ∧ (((both.length : Nat) : Int) > 1 ↔ op = true) ∧ (((cntTo oldB both both.length : Nat) : Int) = 1 ↔ g2 = true) ∧ (((cntTo youngB both both.length : Nat) : Int) = 1 ↔ g3 = true) ∧
        ∀ j : Nat, j < both.length → ∃ s : List Int, rd_L2 both ((j : Nat) : Int) = s ∧ impl_HasOldest.f k s = some (oldB s, true) ∧ impl_HasYoungest.f k s = some (youngB s, true) ∧ laws_qHasRow.f k sets s = some true ∧ laws_qHasRow.f k oldest s = some (op && (g2 && oldB s)) ∧ laws_qHasRow.f k youngest s = some (op && (g3 && youngB s)))
    (hK : ∀ σ' τ' w', (∀ j, j < 31 → σ' j = σ j) → Below w.heap.size w w' → rest.wp Tryz.prog Q (Sg.fr 728 (Sg.mix 91 σ' τ')) w') :
    (Code.seq (g4S 16) rest).wp Tryz.prog Q (Sg.fr 728 (Sg.mix 91 σ τ)) w := by
  obtain ⟨A7, c7, A11, c11, A15, c15, A23, c23, A27, c27, ⟨h5, h6, h7, h8, h11, h15, h19, h23, h27⟩, ⟨q7, p7⟩, ⟨q11, p11⟩, ⟨q15, p15⟩, ⟨q23, p23⟩, ⟨q27, p27⟩⟩ := hSt
  refine Sg.sq ?_
  refine Sg.sq ?_
  refine Sg.rg ?_
  refine Sg.mv (v := .bool ok) (hs := Sg.rs rfl h8) (h := ?_)
  first | refine Sg.nl ?_ | refine Sg.nl1 ?_
  cases ok
  ·skip
   refine Sg.cf rfl rfl ?_
   first | refine Sg.sk ?_ | refine Sg.sk1 ?_
   exact hK _ _ _ (fun j hj => rfl) (Below.refl _ _)
  ·skip
   obtain ⟨e1, e2, e3, e4, e5, e6, e7, e8, e9, e10⟩ := hD_ rfl
   refine Sg.ct rfl rfl ?_
   refine Sg.sq ?_
   refine Sg.sq ?_
   refine Sg.rg ?_
   refine Sg.mv (v := .slice A15 sets.length c15) (hs := Sg.rs rfl h15) (h := ?_)
   refine Sg.len (hu := by first | exact Tryz.underlying22 | exact Tryz.underlying26 | exact Tryz.underlying31) (h := ?_)
   refine Sg.mv (v := .int .i64 count) (hs := Sg.rs rfl h19) (h := ?_)
   refine Sg.ineq (c := false) (hc := iff_of_false (by omega) Bool.false_ne_true) (h := ?_)
   refine Sg.mv (v := .bool false) (h := ?_)
   refine Sg.mv (v := .slice A15 sets.length c15) (hw := Sg.wy (d := 264) rfl rfl rfl) (hs := Sg.rs rfl h15) (h := ?_)
   refine Sg.cl (args := #[.slice A15 sets.length c15]) (hf := Tryz.func20) (hw := Sg.wy (d := 264) rfl rfl rfl) (hargs := Sg.a1 (Sg.rs rfl rfl)) (h := ?_)
   refine (laws_qOrdered.calls k A15 c15 sets true _ q15 p15 e2).mono ?_
   rintro _ w1 ⟨rfl, d3⟩
   have b2 := d3.below
   refine ⟨_, _, rfl, (Sg.ps rfl), ?_⟩
   refine Sg.nt (b := true) (hw := Sg.wy (d := 264) rfl rfl rfl) (h := ?_)
   refine Sg.pk (v := .bool false) (h := ?_)
   refine Sg.mv (v := .bool false) (h := ?_)
   refine Sg.mv (v := .slice A7 oldest.length c7) (hw := Sg.wy (d := 269) rfl rfl rfl) (hs := Sg.rs rfl h7) (h := ?_)
   refine Sg.cl (args := #[.slice A7 oldest.length c7]) (hf := Tryz.func20) (hw := Sg.wy (d := 269) rfl rfl rfl) (hargs := Sg.a1 (Sg.rs rfl rfl)) (h := ?_)
   have f4 := Kd.C_below q7 b2
   refine (laws_qOrdered.calls k A7 c7 oldest true _ f4 p7 e3).mono ?_
   rintro _ w5 ⟨rfl, d7⟩
   have b6 := d7.below
   refine ⟨_, _, rfl, (Sg.ps rfl), ?_⟩
   refine Sg.nt (b := true) (hw := Sg.wy (d := 269) rfl rfl rfl) (h := ?_)
   refine Sg.pk (v := .bool false) (h := ?_)
   refine Sg.mv (v := .bool false) (h := ?_)
   refine Sg.mv (v := .slice A11 youngest.length c11) (hw := Sg.wy (d := 274) rfl rfl rfl) (hs := Sg.rs rfl h11) (h := ?_)
   refine Sg.cl (args := #[.slice A11 youngest.length c11]) (hf := Tryz.func20) (hw := Sg.wy (d := 274) rfl rfl rfl) (hargs := Sg.a1 (Sg.rs rfl rfl)) (h := ?_)
   have f8 := Kd.C_below q11 (below_step b2 b6)
   refine (laws_qOrdered.calls k A11 c11 youngest true _ f8 p11 e4).mono ?_
   rintro _ w9 ⟨rfl, d11⟩
   have b10 := d11.below
   refine ⟨_, _, rfl, (Sg.ps rfl), ?_⟩
   refine Sg.nt (b := true) (hw := Sg.wy (d := 274) rfl rfl rfl) (h := ?_)
   refine Sg.pk (v := .bool false) (h := ?_)
   refine Sg.mv (v := .bool false) (h := ?_)
   refine Sg.mv (v := .slice A23 sums.length c23) (hw := Sg.wy (d := 279) rfl rfl rfl) (hs := Sg.rs rfl h23) (h := ?_)
   refine Sg.cl (args := #[.slice A23 sums.length c23]) (hf := Tryz.func21) (hw := Sg.wy (d := 279) rfl rfl rfl) (hargs := Sg.a1 (Sg.rs rfl rfl)) (h := ?_)
   have f12 := Kd.C_below q23 (below_step (below_step b2 b6) b10)
   refine (laws_qRises.calls k A23 c23 sums true _ f12 p23 e5).mono ?_
   rintro _ w13 ⟨rfl, d15⟩
   have b14 := d15.below
   refine ⟨_, _, rfl, (Sg.ps rfl), ?_⟩
   refine Sg.nt (b := true) (hw := Sg.wy (d := 279) rfl rfl rfl) (h := ?_)
   refine Sg.pk (v := .bool false) (h := ?_)
   refine Sg.mv (v := .bool false) (h := ?_)
   refine Sg.mv (v := .slice A27 open_.length c27) (hw := Sg.wy (d := 284) rfl rfl rfl) (hs := Sg.rs rfl h27) (h := ?_)
   refine Sg.cl (args := #[.slice A27 open_.length c27]) (hf := Tryz.func21) (hw := Sg.wy (d := 284) rfl rfl rfl) (hargs := Sg.a1 (Sg.rs rfl rfl)) (h := ?_)
   have f16 := Kd.C_below q27 (below_step (below_step (below_step b2 b6) b10) b14)
   refine (laws_qRises.calls k A27 c27 open_ true _ f16 p27 e6).mono ?_
   rintro _ w17 ⟨rfl, d19⟩
   have b18 := d19.below
   refine ⟨_, _, rfl, (Sg.ps rfl), ?_⟩
   refine Sg.nt (b := true) (hw := Sg.wy (d := 284) rfl rfl rfl) (h := ?_)
   refine Sg.pk (v := .bool false) (h := ?_)
   first | refine Sg.nl ?_ | refine Sg.nl1 ?_
   refine Sg.cf rfl rfl ?_
   first | refine Sg.sk ?_ | refine Sg.sk1 ?_
   refine Sg.sq ?_
   refine Sg.sq ?_
   refine Sg.rg ?_
   refine Sg.mv (v := .slice A15 sets.length c15) (hs := Sg.rs rfl h15) (h := ?_)
   refine Sg.len (hu := by first | exact Tryz.underlying22 | exact Tryz.underlying26 | exact Tryz.underlying31) (h := ?_)
   refine Sg.mv (v := .int .i64 0) (h := ?_)
   first | refine Sg.nl ?_ | refine Sg.nl1 ?_
   refine Sg.gs fun σ20 hσ21 => ?_
   refine Sg.bl ?_
   refine Sg.lp (sets.length) (fun i σ' τ' w' => (∀ j, j < 91 → j ≠ 32 → j ≠ 33 → j ≠ 35 → σ' j = σ20 j) ∧ τ' 289 = .slice A15 sets.length c15 ∧ τ' 290 = .int .i64 ((sets.length : Nat) : Int) ∧ τ' 291 = .int .i64 ((i : Nat) : Int) ∧ Below w17.heap.size w17 w') 0 (Nat.zero_le _) ⟨fun _ _ _ _ _ => rfl, rfl, rfl, rfl, Below.refl _ _⟩ ?_
   rintro i σ22 τ23 w24 hi_i ⟨s25, t28, t29, t30, b26⟩ K27 hK27
   by_cases hlt_i : i < sets.length
   ·skip
    obtain ⟨s, v, g1, g2, g3, g5, g6, g7, g8⟩ := e9 i hlt_i
    have f31 := Kd.C_below q15 (below_step (below_step (below_step (below_step (below_step b2 b6) b10) b14) b18) b26)
    obtain ⟨ad32, A33, c34, hA35, hc36, hl37, hC38⟩ := at_L2 f31 ((i : Nat) : Int) (Int.natCast_nonneg _) (Int.ofNat_lt.2 hlt_i)
    rw [g1] at hc36 hl37 hC38
    refine Sg.sq ?_
    refine Sg.rg ?_
    refine Sg.ilss (c := true) (hx := Sg.rs rfl t30) (hy := Sg.rs rfl t29) (hc := iff_of_true (by omega) rfl) (h := ?_)
    first | refine Sg.nl ?_ | refine Sg.nl1 ?_
    refine Sg.sq ?_
    refine Sg.ct rfl rfl ?_
    first | refine Sg.sk ?_ | refine Sg.sk1 ?_
    refine Sg.sq ?_
    refine Sg.bl ?_
    refine Sg.sq ?_
    refine Sg.rg ?_
    refine Sg.yy (hy := Sg.Xixa (sz := 1) (i := ((i : Nat) : Int)) (hu := Tryz.underlying26) (hsz := by kernel_rfl) (h0 := Int.natCast_nonneg _) (h1 := Int.ofNat_lt.2 hlt_i) (had := by rw [Nat.mul_one]) (ho := rfl) (hx := Sg.rs rfl (t28.trans (congrArg (fun a_ => Value.slice a_ sets.length c15) hA35))) (hy := Sg.rs rfl t30)) (h := ?_)
    refine Sg.yy (hy := Sg.Xlds Tryz.underlying31 rfl (Sg.rs rfl rfl) hc36) (h := ?_)
    refine Sg.asg (v := .slice A33 s.length c34) (h := ?_)
    first | refine Sg.nl ?_ | refine Sg.nl1 ?_
    refine Sg.sq ?_
    refine Sg.rg ?_
    refine Sg.asg (v := .int .i64 1) (h := ?_)
    first | refine Sg.nl ?_ | refine Sg.nl1 ?_
    refine Sg.sq ?_
    refine Sg.sq ?_
    refine Sg.rg ?_
    refine Sg.mv (v := .slice A33 s.length c34) (h := ?_)
    refine Sg.len (hu := by first | exact Tryz.underlying22 | exact Tryz.underlying26 | exact Tryz.underlying31) (h := ?_)
    refine Sg.mv (v := .int .i64 0) (h := ?_)
    first | refine Sg.nl ?_ | refine Sg.nl1 ?_
    refine Sg.gs fun σ39 hσ40 => ?_
    refine Sg.bl ?_
    refine Sg.lp (s.length) (fun j_ σ' τ' w' => (∀ j, j < 91 → j ≠ 33 → j ≠ 35 → σ' j = σ39 j) ∧ τ' 289 = .slice A15 sets.length c15 ∧ τ' 290 = .int .i64 ((sets.length : Nat) : Int) ∧ τ' 291 = .int .i64 ((i : Nat) : Int) ∧ τ' 295 = .slice A33 s.length c34 ∧ τ' 296 = .int .i64 ((s.length : Nat) : Int) ∧ τ' 297 = .int .i64 ((j_ : Nat) : Int) ∧ σ' 33 = .int .i64 (prodTo s j_) ∧ Below w24.heap.size w24 w') 0 (Nat.zero_le _) ⟨fun _ _ _ _ => rfl, t28, t29, t30, rfl, rfl, rfl, ((congrFun hσ40 33).trans rfl), Below.refl _ _⟩ ?_
    rintro j_ σ41 τ42 w43 hi_j_ ⟨s44, t47, t48, t49, t50, t51, t52, t53, b45⟩ K46 hK46
    by_cases hlt_j_ : j_ < s.length
    ·skip
     have f54 := Kd.C_below hC38 b45
     obtain ⟨ad55, hA56, hc57⟩ := Kd.at_int f54 ((j_ : Nat) : Int) (Int.natCast_nonneg _) (Int.ofNat_lt.2 hlt_j_)
     refine Sg.sq ?_
     refine Sg.rg ?_
     refine Sg.ilss (c := true) (hx := Sg.rs rfl t52) (hy := Sg.rs rfl t51) (hc := iff_of_true (by omega) rfl) (h := ?_)
     first | refine Sg.nl ?_ | refine Sg.nl1 ?_
     refine Sg.sq ?_
     refine Sg.ct rfl rfl ?_
     first | refine Sg.sk ?_ | refine Sg.sk1 ?_
     refine Sg.sq ?_
     refine Sg.bl ?_
     refine Sg.sq ?_
     refine Sg.rg ?_
     refine Sg.yy (hy := Sg.Xixa (sz := 1) (i := ((j_ : Nat) : Int)) (hu := Tryz.underlying31) (hsz := by kernel_rfl) (h0 := Int.natCast_nonneg _) (h1 := Int.ofNat_lt.2 hlt_j_) (had := by rw [Nat.mul_one]) (ho := rfl) (hx := Sg.rs rfl (t50.trans (congrArg (fun a_ => Value.slice a_ s.length c34) hA56))) (hy := Sg.rs rfl t52)) (h := ?_)
     refine Sg.yy (hy := Sg.Xldi (hu := Tryz.underlying3) (hc := hc57)) (h := ?_)
     refine Sg.asg (v := .int .i64 (rd s ((j_ : Nat) : Int))) (h := ?_)
     first | refine Sg.nl ?_ | refine Sg.nl1 ?_
     refine Sg.rg ?_
     refine Sg.mv (v := .int .i64 (prodTo s j_)) (hs := Sg.rs rfl t53) (h := ?_)
     refine Sg.mv (v := .int .i64 (rd s ((j_ : Nat) : Int))) (h := ?_)
     refine Sg.imul (c := prodTo s (j_ + 1)) (hc := rfl) (h := ?_)
     refine Sg.asg (v := .int .i64 (prodTo s (j_ + 1))) (h := ?_)
     first | refine Sg.nl ?_ | refine Sg.nl1 ?_
     refine Sg.rg ?_
     refine Sg.iadd (c := ((j_ + 1 : Nat) : Int)) (hx := Sg.rs rfl t52) (hc := by unfold wrap64; omega) (h := ?_)
     refine Sg.mv (v := .int .i64 ((j_ + 1 : Nat) : Int)) (h := ?_)
     first | refine Sg.nl ?_ | refine Sg.nl1 ?_
     exact hK46 _ _ _ hlt_j_ ⟨fun j hj h33_ h35_ => (Sg.un (by omega)).trans ((Sg.un (by omega)).trans ((s44 _ (by omega) (by omega) (by omega)))), t47, t48, t49, t50, t51, rfl, rfl, b45⟩
    ·skip
     have h58 : s.length = j_ := by omega
     subst h58
     refine Sg.sq ?_
     refine Sg.rg ?_
     refine Sg.ilss (c := false) (hx := Sg.rs rfl t52) (hy := Sg.rs rfl t51) (h := ?_)
     first | refine Sg.nl ?_ | refine Sg.nl1 ?_
     refine Sg.sq ?_
     refine Sg.cf rfl rfl ?_
     first | refine Sg.ex0 ?_ | refine Sg.ex1 ?_
     refine Sg.sq ?_
     refine Sg.rg ?_
     refine Sg.mv (v := .slice A33 s.length c34) (hs := Sg.rs rfl ((s44 32 (by decide) (by decide) (by decide)).trans ((congrFun hσ40 32).trans rfl))) (h := ?_)
     refine Sg.len (hu := by first | exact Tryz.underlying22 | exact Tryz.underlying26 | exact Tryz.underlying31) (h := ?_)
     refine Sg.mv (v := .int .i64 children) (hs := Sg.rs rfl ((s44 5 (by decide) (by decide) (by decide)).trans ((congrFun hσ40 5).trans ((s25 5 (by decide) (by decide) (by decide) (by decide)).trans ((congrFun hσ21 5).trans h5))))) (h := ?_)
     refine Sg.ineq (c := false) (hc := iff_of_false (by omega) Bool.false_ne_true) (h := ?_)
     refine Sg.mv (v := .bool false) (h := ?_)
     refine Sg.mv (v := .int .i64 (prodTo s s.length)) (hw := Sg.wy (d := 309) rfl rfl rfl) (hs := Sg.rs rfl t53) (h := ?_)
     refine Sg.mv (v := .int .i64 product) (hw := Sg.wy (d := 309) rfl rfl rfl) (hs := Sg.rs rfl ((s44 6 (by decide) (by decide) (by decide)).trans ((congrFun hσ40 6).trans ((s25 6 (by decide) (by decide) (by decide) (by decide)).trans ((congrFun hσ21 6).trans h6))))) (h := ?_)
     refine Sg.ineq (c := false) (hw := Sg.wy (d := 309) rfl rfl rfl) (hc := iff_of_false (by rw [g5]; simp) Bool.false_ne_true) (h := ?_)
     refine Sg.pk (v := .bool false) (h := ?_)
     refine Sg.mv (v := .bool false) (h := ?_)
     refine Sg.mv (v := .slice A33 s.length c34) (hw := Sg.wy (d := 314) rfl rfl rfl) (hs := Sg.rs rfl ((s44 32 (by decide) (by decide) (by decide)).trans ((congrFun hσ40 32).trans rfl))) (h := ?_)
     refine Sg.cl (args := #[.slice A33 s.length c34]) (hf := Tryz.func22) (hw := Sg.wy (d := 314) rfl rfl rfl) (hargs := Sg.a1 (Sg.rs rfl rfl)) (h := ?_)
     have f59 := Kd.C_below hC38 b45
     refine (impl_IsSet.calls k A33 c34 s true _ f59 hl37 g6).mono ?_
     rintro _ w60 ⟨rfl, b61⟩
     refine ⟨_, _, rfl, (Sg.ps rfl), ?_⟩
     refine Sg.nt (b := true) (hw := Sg.wy (d := 314) rfl rfl rfl) (h := ?_)
     refine Sg.pk (v := .bool false) (h := ?_)
     refine Sg.mv (v := .bool false) (h := ?_)
     refine Sg.mv (v := .slice A23 sums.length c23) (hw := Sg.wy (d := 319) rfl rfl rfl) (hs := Sg.rs rfl ((s44 23 (by decide) (by decide) (by decide)).trans ((congrFun hσ40 23).trans ((s25 23 (by decide) (by decide) (by decide) (by decide)).trans ((congrFun hσ21 23).trans h23))))) (h := ?_)
     refine Sg.mv (v := .slice A33 s.length c34) (hw := Sg.wy (d := 319) rfl rfl rfl) (hs := Sg.rs rfl ((s44 32 (by decide) (by decide) (by decide)).trans ((congrFun hσ40 32).trans rfl))) (h := ?_)
     refine Sg.cl (args := #[.slice A33 s.length c34]) (hf := Tryz.func24) (hw := Sg.wy (d := 319) rfl rfl rfl) (hargs := Sg.a1 (Sg.rs rfl rfl)) (h := ?_)
     have f62 := Kd.C_below f59 b61
     refine (laws_qSum.calls k A33 c34 s v _ f62 hl37 g7).mono ?_
     rintro _ w63 ⟨rfl, d65⟩
     have b64 := d65.below
     refine ⟨_, _, rfl, (Sg.ps rfl), ?_⟩
     refine Sg.cl (args := #[.slice A23 sums.length c23, .int .i64 v]) (hf := Tryz.func23) (hw := Sg.wy (d := 319) rfl rfl rfl) (hargs := Sg.a2 (Sg.rs rfl rfl) (Sg.rs rfl rfl)) (h := ?_)
     have f66 := Kd.C_below f12 (below_step (below_step (below_step (below_step (below_step b14 b18) b26) b45) b61) b64)
     refine (laws_qHas.calls k A23 c23 sums v true _ f66 p23 g8).mono ?_
     rintro _ w67 ⟨rfl, d69⟩
     have b68 := d69.below
     refine ⟨_, _, rfl, (Sg.ps rfl), ?_⟩
     refine Sg.nt (b := true) (hw := Sg.wy (d := 319) rfl rfl rfl) (h := ?_)
     refine Sg.pk (v := .bool false) (h := ?_)
     first | refine Sg.nl ?_ | refine Sg.nl1 ?_
     refine Sg.cf rfl rfl ?_
     first | refine Sg.sk ?_ | refine Sg.sk1 ?_
     refine Sg.rg ?_
     refine Sg.iadd (c := ((i + 1 : Nat) : Int)) (hx := Sg.rs rfl t49) (hc := by unfold wrap64; omega) (h := ?_)
     refine Sg.mv (v := .int .i64 ((i + 1 : Nat) : Int)) (h := ?_)
     first | refine Sg.nl ?_ | refine Sg.nl1 ?_
     exact hK27 _ _ _ hlt_i ⟨fun j hj h32_ h33_ h35_ => (s44 _ (by omega) (by omega) (by omega)).trans ((congrFun hσ40 _).trans ((Sg.un (by omega)).trans ((Sg.un (by omega)).trans ((s25 _ (by omega) (by omega) (by omega) (by omega)))))), t47, t48, rfl, (below_step (below_step (below_step (below_step b26 b45) b61) b64) b68)⟩
   ·skip
    have h70 : sets.length = i := by omega
    subst h70
    refine Sg.sq ?_
    refine Sg.rg ?_
    refine Sg.ilss (c := false) (hx := Sg.rs rfl t30) (hy := Sg.rs rfl t29) (h := ?_)
    first | refine Sg.nl ?_ | refine Sg.nl1 ?_
    refine Sg.sq ?_
    refine Sg.cf rfl rfl ?_
    first | refine Sg.ex0 ?_ | refine Sg.ex1 ?_
    refine Sg.sq ?_
    refine Sg.rg ?_
    refine Sg.mv (v := .slice A23 sums.length c23) (hs := Sg.rs rfl ((s25 23 (by decide) (by decide) (by decide) (by decide)).trans ((congrFun hσ21 23).trans h23))) (h := ?_)
    refine Sg.len (hu := by first | exact Tryz.underlying22 | exact Tryz.underlying26 | exact Tryz.underlying31) (h := ?_)
    refine Sg.mv (v := .int .i64 0) (h := ?_)
    first | refine Sg.nl ?_ | refine Sg.nl1 ?_
    refine Sg.gs fun σ71 hσ72 => ?_
    refine Sg.bl ?_
    refine Sg.lp (sums.length) (fun i σ' τ' w' => (∀ j, j < 91 → j ≠ 37 → j ≠ 38 → j ≠ 39 → j ≠ 40 → j ≠ 41 → j ≠ 42 → j ≠ 43 → j ≠ 45 → j ≠ 46 → j ≠ 47 → j ≠ 48 → j ≠ 49 → j ≠ 51 → j ≠ 52 → j ≠ 53 → j ≠ 54 → j ≠ 55 → σ' j = σ71 j) ∧ τ' 327 = .slice A23 sums.length c23 ∧ τ' 328 = .int .i64 ((sums.length : Nat) : Int) ∧ τ' 329 = .int .i64 ((i : Nat) : Int) ∧ Below w24.heap.size w24 w') 0 (Nat.zero_le _) ⟨fun _ _ _ _ _ _ _ _ _ _ _ _ _ _ _ _ _ _ _ => rfl, rfl, rfl, rfl, Below.refl _ _⟩ ?_
    rintro i σ73 τ74 w75 hi_i ⟨s76, t79, t80, t81, b77⟩ K78 hK78
    by_cases hlt_i : i < sums.length
    ·skip
     obtain ⟨sum, both, tells, op, g2b, g3b, g1, g2, g3, ⟨g4, g5⟩, g6, g7, g8, g9, g10, g11⟩ := e10 i hlt_i
     have f82 := Kd.C_below f12 (below_step (below_step (below_step b14 b18) b26) b77)
     obtain ⟨ad83, hA84, hc85⟩ := Kd.at_int f82 ((i : Nat) : Int) (Int.natCast_nonneg _) (Int.ofNat_lt.2 hlt_i)
     rw [g1] at hc85
     refine Sg.sq ?_
     refine Sg.rg ?_
     refine Sg.ilss (c := true) (hx := Sg.rs rfl t81) (hy := Sg.rs rfl t80) (hc := iff_of_true (by omega) rfl) (h := ?_)
     first | refine Sg.nl ?_ | refine Sg.nl1 ?_
     refine Sg.sq ?_
     refine Sg.ct rfl rfl ?_
     first | refine Sg.sk ?_ | refine Sg.sk1 ?_
     refine Sg.sq ?_
     refine Sg.bl ?_
     refine Sg.sq ?_
     refine Sg.rg ?_
     refine Sg.yy (hy := Sg.Xixa (sz := 1) (i := ((i : Nat) : Int)) (hu := Tryz.underlying31) (hsz := by kernel_rfl) (h0 := Int.natCast_nonneg _) (h1 := Int.ofNat_lt.2 hlt_i) (had := by rw [Nat.mul_one]) (ho := rfl) (hx := Sg.rs rfl (t79.trans (congrArg (fun a_ => Value.slice a_ sums.length c23) hA84))) (hy := Sg.rs rfl t81)) (h := ?_)
     refine Sg.yy (hy := Sg.Xldi (hu := Tryz.underlying3) (hc := hc85)) (h := ?_)
     refine Sg.asg (v := .int .i64 sum) (h := ?_)
     first | refine Sg.nl ?_ | refine Sg.nl1 ?_
     refine Sg.sq ?_
     refine Sg.rg ?_
     refine Sg.mv (v := .int .i64 children) (hs := Sg.rs rfl ((s76 5 (by decide) (by decide) (by decide) (by decide) (by decide) (by decide) (by decide) (by decide) (by decide) (by decide) (by decide) (by decide) (by decide) (by decide) (by decide) (by decide) (by decide) (by decide)).trans ((congrFun hσ72 5).trans ((s25 5 (by decide) (by decide) (by decide) (by decide)).trans ((congrFun hσ21 5).trans h5))))) (h := ?_)
     refine Sg.mv (v := .int .i64 product) (hs := Sg.rs rfl ((s76 6 (by decide) (by decide) (by decide) (by decide) (by decide) (by decide) (by decide) (by decide) (by decide) (by decide) (by decide) (by decide) (by decide) (by decide) (by decide) (by decide) (by decide) (by decide)).trans ((congrFun hσ72 6).trans ((s25 6 (by decide) (by decide) (by decide) (by decide)).trans ((congrFun hσ21 6).trans h6))))) (h := ?_)
     refine Sg.mv (v := .int .i64 sum) (h := ?_)
     refine Sg.cl (args := #[.int .i64 children, .int .i64 product, .int .i64 sum]) (hf := Tryz.func25) (hargs := Sg.a3 (Sg.rs rfl rfl) (Sg.rs rfl rfl) (Sg.rs rfl rfl)) (h := ?_)
     refine (impl_SetsOfBoth.calls children product sum both true _ g2).mono ?_
     rintro _ w86 ⟨v88, rfl, r89, b87⟩
     obtain ⟨A90, c91, rfl, f93, f92⟩ := Kd.S_reads r89
     refine ⟨_, _, rfl, (Sg.ps rfl), ?_⟩
     refine Sg.mv (v := .tuple #[.slice A90 both.length c91, .bool true]) (h := ?_)
     refine Sg.ext (v := .slice A90 both.length c91) (h := ?_)
     refine Sg.ext (v := .bool true) (h := ?_)
     refine Sg.asg (v := .slice A90 both.length c91) (h := ?_)
     refine Sg.asg (v := .bool true) (h := ?_)
     first | refine Sg.nl ?_ | refine Sg.nl1 ?_
     refine Sg.sq ?_
     refine Sg.rg ?_
     refine Sg.mv (v := .int .i64 children) (hs := Sg.rs rfl ((s76 5 (by decide) (by decide) (by decide) (by decide) (by decide) (by decide) (by decide) (by decide) (by decide) (by decide) (by decide) (by decide) (by decide) (by decide) (by decide) (by decide) (by decide) (by decide)).trans ((congrFun hσ72 5).trans ((s25 5 (by decide) (by decide) (by decide) (by decide)).trans ((congrFun hσ21 5).trans h5))))) (h := ?_)
     refine Sg.mv (v := .int .i64 product) (hs := Sg.rs rfl ((s76 6 (by decide) (by decide) (by decide) (by decide) (by decide) (by decide) (by decide) (by decide) (by decide) (by decide) (by decide) (by decide) (by decide) (by decide) (by decide) (by decide) (by decide) (by decide)).trans ((congrFun hσ72 6).trans ((s25 6 (by decide) (by decide) (by decide) (by decide)).trans ((congrFun hσ21 6).trans h6))))) (h := ?_)
     refine Sg.mv (v := .int .i64 sum) (h := ?_)
     refine Sg.cl (args := #[.int .i64 children, .int .i64 product, .int .i64 sum]) (hf := Tryz.func26) (hargs := Sg.a3 (Sg.rs rfl rfl) (Sg.rs rfl rfl) (Sg.rs rfl rfl)) (h := ?_)
     refine (impl_DoesTell.calls children product sum tells true _ g3).mono ?_
     rintro _ w94 ⟨rfl, b95⟩
     refine ⟨_, _, rfl, (Sg.ps rfl), ?_⟩
     refine Sg.mv (v := .tuple #[.bool tells, .bool true]) (h := ?_)
     refine Sg.ext (v := .bool tells) (h := ?_)
     refine Sg.ext (v := .bool true) (h := ?_)
     refine Sg.asg (v := .bool tells) (h := ?_)
     refine Sg.asg (v := .bool true) (h := ?_)
     first | refine Sg.nl ?_ | refine Sg.nl1 ?_
     refine Sg.sq ?_
     refine Sg.sq ?_
     refine Sg.rg ?_
     refine Sg.mv (v := .bool true) (h := ?_)
     refine Sg.nt (b := true) (h := ?_)
     refine Sg.mv (v := .bool false) (h := ?_)
     refine Sg.mv (v := .slice A90 both.length c91) (hw := Sg.wy (d := 349) rfl rfl rfl) (h := ?_)
     refine Sg.len (hu := by first | exact Tryz.underlying22 | exact Tryz.underlying26 | exact Tryz.underlying31) (hw := Sg.wy (d := 349) rfl rfl rfl) (h := ?_)
     refine Sg.ieql (c := false) (hw := Sg.wy (d := 349) rfl rfl rfl) (hc := iff_of_false (by omega) Bool.false_ne_true) (h := ?_)
     refine Sg.pk (v := .bool false) (h := ?_)
     refine Sg.mv (v := .bool false) (h := ?_)
     refine Sg.mv (v := .bool true) (hw := Sg.wy (d := 354) rfl rfl rfl) (h := ?_)
     refine Sg.nt (b := true) (hw := Sg.wy (d := 354) rfl rfl rfl) (h := ?_)
     refine Sg.pk (v := .bool false) (h := ?_)
     refine Sg.mv (v := .bool false) (h := ?_)
     refine Sg.mv (v := .bool tells) (hw := Sg.wy (d := 358) rfl rfl rfl) (h := ?_)
     refine Sg.mv (v := .slice A90 both.length c91) (hw := Sg.wy (d := 358) rfl rfl rfl) (h := ?_)
     refine Sg.len (hu := by first | exact Tryz.underlying22 | exact Tryz.underlying26 | exact Tryz.underlying31) (hw := Sg.wy (d := 358) rfl rfl rfl) (h := ?_)
     refine Sg.ieql (c := tells) (hw := Sg.wy (d := 358) rfl rfl rfl) (hc := g6) (h := ?_)
     refine Sg.bneq (c := false) (hu := Tryz.underlying4) (hw := Sg.wy (d := 358) rfl rfl rfl) (h := ?_)
     refine Sg.pk (v := .bool false) (h := ?_)
     refine Sg.mv (v := .bool false) (h := ?_)
     refine Sg.mv (v := .slice A27 open_.length c27) (hw := Sg.wy (d := 365) rfl rfl rfl) (hs := Sg.rs rfl ((s76 27 (by decide) (by decide) (by decide) (by decide) (by decide) (by decide) (by decide) (by decide) (by decide) (by decide) (by decide) (by decide) (by decide) (by decide) (by decide) (by decide) (by decide) (by decide)).trans ((congrFun hσ72 27).trans ((s25 27 (by decide) (by decide) (by decide) (by decide)).trans ((congrFun hσ21 27).trans h27))))) (h := ?_)
     refine Sg.mv (v := .int .i64 sum) (hw := Sg.wy (d := 365) rfl rfl rfl) (h := ?_)
     refine Sg.cl (args := #[.slice A27 open_.length c27, .int .i64 sum]) (hf := Tryz.func23) (hw := Sg.wy (d := 365) rfl rfl rfl) (hargs := Sg.a2 (Sg.rs rfl rfl) (Sg.rs rfl rfl)) (h := ?_)
     have f96 := Kd.C_below f16 (below_step (below_step (below_step (below_step b18 b26) b77) b87) b95)
     refine (laws_qHas.calls k A27 c27 open_ sum op _ f96 p27 g7).mono ?_
     rintro _ w97 ⟨rfl, d99⟩
     have b98 := d99.below
     refine ⟨_, _, rfl, (Sg.ps rfl), ?_⟩
     refine Sg.mv (v := .slice A90 both.length c91) (hw := Sg.wy (d := 365) rfl rfl rfl) (h := ?_)
     refine Sg.len (hu := by first | exact Tryz.underlying22 | exact Tryz.underlying26 | exact Tryz.underlying31) (hw := Sg.wy (d := 365) rfl rfl rfl) (h := ?_)
     refine Sg.igtr (c := op) (hw := Sg.wy (d := 365) rfl rfl rfl) (hc := g8) (h := ?_)
     refine Sg.bneq (c := false) (hu := Tryz.underlying4) (hw := Sg.wy (d := 365) rfl rfl rfl) (h := ?_)
     refine Sg.pk (v := .bool false) (h := ?_)
     first | refine Sg.nl ?_ | refine Sg.nl1 ?_
     refine Sg.cf rfl rfl ?_
     first | refine Sg.sk ?_ | refine Sg.sk1 ?_
     refine Sg.sq ?_
     refine Sg.rg ?_
     refine Sg.asg (v := .int .i64 0) (h := ?_)
     refine Sg.asg (v := .int .i64 0) (h := ?_)
     first | refine Sg.nl ?_ | refine Sg.nl1 ?_
     refine Sg.sq ?_
     refine Sg.sq ?_
     refine Sg.rg ?_
     refine Sg.mv (v := .slice A90 both.length c91) (h := ?_)
     refine Sg.len (hu := by first | exact Tryz.underlying22 | exact Tryz.underlying26 | exact Tryz.underlying31) (h := ?_)
     refine Sg.mv (v := .int .i64 0) (h := ?_)
     first | refine Sg.nl ?_ | refine Sg.nl1 ?_
     refine Sg.gs fun σ100 hσ101 => ?_
     refine Sg.bl ?_
     refine Sg.lp (both.length) (fun j_ σ' τ' w' => (∀ j, j < 91 → j ≠ 42 → j ≠ 43 → j ≠ 45 → j ≠ 46 → j ≠ 47 → j ≠ 48 → j ≠ 49 → σ' j = σ100 j) ∧ τ' 327 = .slice A23 sums.length c23 ∧ τ' 328 = .int .i64 ((sums.length : Nat) : Int) ∧ τ' 329 = .int .i64 ((i : Nat) : Int) ∧ τ' 374 = .slice A90 both.length c91 ∧ τ' 375 = .int .i64 ((both.length : Nat) : Int) ∧ τ' 376 = .int .i64 ((j_ : Nat) : Int) ∧ σ' 42 = .int .i64 ((cntTo oldB both j_ : Nat) : Int) ∧ σ' 43 = .int .i64 ((cntTo youngB both j_ : Nat) : Int) ∧ Below w97.heap.size w97 w') 0 (Nat.zero_le _) ⟨fun _ _ _ _ _ _ _ _ _ => rfl, t79, t80, t81, rfl, rfl, rfl, ((congrFun hσ101 42).trans rfl), ((congrFun hσ101 43).trans rfl), Below.refl _ _⟩ ?_
     rintro j_ σ102 τ103 w104 hi_j_ ⟨s105, t108, t109, t110, t111, t112, t113, t114, t115, b106⟩ K107 hK107
     by_cases hlt_j_ : j_ < both.length
     ·skip
      obtain ⟨s, u1, u2, u3, u4, u5, u6⟩ := g11 j_ hlt_j_
      have f116 := Kd.C_below f92 (below_step (below_step b95 b98) b106)
      obtain ⟨ad117, A118, c119, hA120, hc121, hl122, hC123⟩ := at_L2 f116 ((j_ : Nat) : Int) (Int.natCast_nonneg _) (Int.ofNat_lt.2 hlt_j_)
      rw [u1] at hc121 hl122 hC123
      obtain ⟨x, hx⟩ : ∃ x, x = oldB s := ⟨_, rfl⟩
      obtain ⟨y, hy⟩ : ∃ y, y = youngB s := ⟨_, rfl⟩
      rw [← hx] at u2 u5
      rw [← hy] at u3 u6
      have hco := cntTo_le oldB both j_
      have hcy := cntTo_le youngB both j_
      refine Sg.sq ?_
      refine Sg.rg ?_
      refine Sg.ilss (c := true) (hx := Sg.rs rfl t113) (hy := Sg.rs rfl t112) (hc := iff_of_true (by omega) rfl) (h := ?_)
      first | refine Sg.nl ?_ | refine Sg.nl1 ?_
      refine Sg.sq ?_
      refine Sg.ct rfl rfl ?_
      first | refine Sg.sk ?_ | refine Sg.sk1 ?_
      refine Sg.sq ?_
      refine Sg.bl ?_
      refine Sg.sq ?_
      refine Sg.rg ?_
      refine Sg.yy (hy := Sg.Xixa (sz := 1) (i := ((j_ : Nat) : Int)) (hu := Tryz.underlying26) (hsz := by kernel_rfl) (h0 := Int.natCast_nonneg _) (h1 := Int.ofNat_lt.2 hlt_j_) (had := by rw [Nat.mul_one]) (ho := rfl) (hx := Sg.rs rfl (t111.trans (congrArg (fun a_ => Value.slice a_ both.length c91) hA120))) (hy := Sg.rs rfl t113)) (h := ?_)
      refine Sg.yy (hy := Sg.Xlds Tryz.underlying31 rfl (Sg.rs rfl rfl) hc121) (h := ?_)
      refine Sg.asg (v := .slice A118 s.length c119) (h := ?_)
      first | refine Sg.nl ?_ | refine Sg.nl1 ?_
      refine Sg.sq ?_
      refine Sg.rg ?_
      refine Sg.mv (v := .slice A118 s.length c119) (h := ?_)
      refine Sg.cl (args := #[.slice A118 s.length c119]) (hf := Tryz.func27) (hargs := Sg.a1 (Sg.rs rfl rfl)) (h := ?_)
      refine (impl_HasOldest.calls k A118 c119 s x true _ hC123 hl122 u2).mono ?_
      rintro _ w124 ⟨rfl, b125⟩
      refine ⟨_, _, rfl, (Sg.ps rfl), ?_⟩
      refine Sg.mv (v := .tuple #[.bool x, .bool true]) (h := ?_)
      refine Sg.ext (v := .bool x) (h := ?_)
      refine Sg.ext (v := .bool true) (h := ?_)
      refine Sg.asg (v := .bool x) (h := ?_)
      refine Sg.asg (v := .bool true) (h := ?_)
      first | refine Sg.nl ?_ | refine Sg.nl1 ?_
      refine Sg.sq ?_
      refine Sg.rg ?_
      refine Sg.mv (v := .slice A118 s.length c119) (h := ?_)
      refine Sg.cl (args := #[.slice A118 s.length c119]) (hf := Tryz.func28) (hargs := Sg.a1 (Sg.rs rfl rfl)) (h := ?_)
      have f126 := Kd.C_below hC123 b125
      refine (impl_HasYoungest.calls k A118 c119 s y true _ f126 hl122 u3).mono ?_
      rintro _ w127 ⟨rfl, b128⟩
      refine ⟨_, _, rfl, (Sg.ps rfl), ?_⟩
      refine Sg.mv (v := .tuple #[.bool y, .bool true]) (h := ?_)
      refine Sg.ext (v := .bool y) (h := ?_)
      refine Sg.ext (v := .bool true) (h := ?_)
      refine Sg.asg (v := .bool y) (h := ?_)
      refine Sg.asg (v := .bool true) (h := ?_)
      first | refine Sg.nl ?_ | refine Sg.nl1 ?_
      refine Sg.sq ?_
      refine Sg.sq ?_
      refine Sg.rg ?_
      refine Sg.mv (v := .bool true) (h := ?_)
      refine Sg.nt (b := true) (h := ?_)
      refine Sg.mv (v := .bool false) (h := ?_)
      refine Sg.mv (v := .bool true) (hw := Sg.wy (d := 392) rfl rfl rfl) (h := ?_)
      refine Sg.nt (b := true) (hw := Sg.wy (d := 392) rfl rfl rfl) (h := ?_)
      refine Sg.pk (v := .bool false) (h := ?_)
      refine Sg.mv (v := .bool false) (h := ?_)
      refine Sg.mv (v := .slice A15 sets.length c15) (hw := Sg.wy (d := 396) rfl rfl rfl) (hs := Sg.rs rfl ((s105 15 (by decide) (by decide) (by decide) (by decide) (by decide) (by decide) (by decide) (by decide)).trans ((congrFun hσ101 15).trans ((s76 15 (by decide) (by decide) (by decide) (by decide) (by decide) (by decide) (by decide) (by decide) (by decide) (by decide) (by decide) (by decide) (by decide) (by decide) (by decide) (by decide) (by decide) (by decide)).trans ((congrFun hσ72 15).trans ((s25 15 (by decide) (by decide) (by decide) (by decide)).trans ((congrFun hσ21 15).trans h15))))))) (h := ?_)
      refine Sg.mv (v := .slice A118 s.length c119) (hw := Sg.wy (d := 396) rfl rfl rfl) (h := ?_)
      refine Sg.cl (args := #[.slice A15 sets.length c15, .slice A118 s.length c119]) (hf := Tryz.func29) (hw := Sg.wy (d := 396) rfl rfl rfl) (hargs := Sg.a2 (Sg.rs rfl rfl) (Sg.rs rfl rfl)) (h := ?_)
      have f129 := Kd.C_below q15 (below_step (below_step (below_step (below_step (below_step (below_step (below_step (below_step (below_step (below_step (below_step (below_step b2 b6) b10) b14) b18) b26) b77) b87) b95) b98) b106) b125) b128)
      have f130 := Kd.C_below f126 b128
      refine (laws_qHasRow.calls k A15 c15 sets A118 c119 s true _ f129 p15 f130 hl122 u4).mono ?_
      rintro _ w131 ⟨rfl, d133⟩
      have b132 := d133.below
      refine ⟨_, _, rfl, (Sg.ps rfl), ?_⟩
      refine Sg.nt (b := true) (hw := Sg.wy (d := 396) rfl rfl rfl) (h := ?_)
      refine Sg.pk (v := .bool false) (h := ?_)
      first | refine Sg.nl ?_ | refine Sg.nl1 ?_
      refine Sg.cf rfl rfl ?_
      first | refine Sg.sk ?_ | refine Sg.sk1 ?_
      refine Sg.sq ?_
      refine Sg.sq ?_
      refine Sg.rg ?_
      refine Sg.mv (v := .bool x) (h := ?_)
      first | refine Sg.nl ?_ | refine Sg.nl1 ?_
      cases x
      ·skip
       refine Sg.cf rfl rfl ?_
       first | refine Sg.sk ?_ | refine Sg.sk1 ?_
       refine Sg.sq ?_
       refine Sg.rg ?_
       refine Sg.mv (v := .bool y) (h := ?_)
       first | refine Sg.nl ?_ | refine Sg.nl1 ?_
       cases y
       ·skip
        refine Sg.cf rfl rfl ?_
        first | refine Sg.sk ?_ | refine Sg.sk1 ?_
        refine Sg.rg ?_
        refine Sg.iadd (c := ((j_ + 1 : Nat) : Int)) (hx := Sg.rs rfl t113) (hc := by unfold wrap64; omega) (h := ?_)
        refine Sg.mv (v := .int .i64 ((j_ + 1 : Nat) : Int)) (h := ?_)
        first | refine Sg.nl ?_ | refine Sg.nl1 ?_
        exact hK107 _ _ _ hlt_j_ ⟨fun j hj h42_ h43_ h45_ h46_ h47_ h48_ h49_ => (Sg.un (by omega)).trans ((Sg.un (by omega)).trans ((Sg.un (by omega)).trans ((Sg.un (by omega)).trans ((Sg.un (by omega)).trans ((s105 _ (by omega) (by omega) (by omega) (by omega) (by omega) (by omega) (by omega) (by omega))))))), t108, t109, t110, t111, t112, rfl, ((t114).trans (cntTo_no oldB both j_ (hx.trans (congrArg oldB u1.symm)))), ((t115).trans (cntTo_no youngB both j_ (hy.trans (congrArg youngB u1.symm)))), (below_step (below_step (below_step b106 b125) b128) b132)⟩
       ·skip
        refine Sg.ct rfl rfl ?_
        refine Sg.rg ?_
        refine Sg.mv (v := .int .i64 ((cntTo youngB both j_ : Nat) : Int)) (hs := Sg.rs rfl t115) (h := ?_)
        refine Sg.iadd (c := ((cntTo youngB both j_ + 1 : Nat) : Int)) (hc := by unfold wrap64; omega) (h := ?_)
        refine Sg.asg (v := .int .i64 ((cntTo youngB both j_ + 1 : Nat) : Int)) (h := ?_)
        first | refine Sg.nl ?_ | refine Sg.nl1 ?_
        refine Sg.rg ?_
        refine Sg.iadd (c := ((j_ + 1 : Nat) : Int)) (hx := Sg.rs rfl t113) (hc := by unfold wrap64; omega) (h := ?_)
        refine Sg.mv (v := .int .i64 ((j_ + 1 : Nat) : Int)) (h := ?_)
        first | refine Sg.nl ?_ | refine Sg.nl1 ?_
        exact hK107 _ _ _ hlt_j_ ⟨fun j hj h42_ h43_ h45_ h46_ h47_ h48_ h49_ => (Sg.un (by omega)).trans ((Sg.un (by omega)).trans ((Sg.un (by omega)).trans ((Sg.un (by omega)).trans ((Sg.un (by omega)).trans ((Sg.un (by omega)).trans ((s105 _ (by omega) (by omega) (by omega) (by omega) (by omega) (by omega) (by omega) (by omega)))))))), t108, t109, t110, t111, t112, rfl, ((t114).trans (cntTo_no oldB both j_ (hx.trans (congrArg oldB u1.symm)))), ((show _ = Value.int .i64 ((cntTo youngB both j_ + 1 : Nat) : Int) from rfl).trans (cntTo_yes youngB both j_ (hy.trans (congrArg youngB u1.symm)))), (below_step (below_step (below_step b106 b125) b128) b132)⟩
      ·skip
       refine Sg.ct rfl rfl ?_
       refine Sg.rg ?_
       refine Sg.mv (v := .int .i64 ((cntTo oldB both j_ : Nat) : Int)) (hs := Sg.rs rfl t114) (h := ?_)
       refine Sg.iadd (c := ((cntTo oldB both j_ + 1 : Nat) : Int)) (hc := by unfold wrap64; omega) (h := ?_)
       refine Sg.asg (v := .int .i64 ((cntTo oldB both j_ + 1 : Nat) : Int)) (h := ?_)
       first | refine Sg.nl ?_ | refine Sg.nl1 ?_
       refine Sg.sq ?_
       refine Sg.rg ?_
       refine Sg.mv (v := .bool y) (h := ?_)
       first | refine Sg.nl ?_ | refine Sg.nl1 ?_
       cases y
       ·skip
        refine Sg.cf rfl rfl ?_
        first | refine Sg.sk ?_ | refine Sg.sk1 ?_
        refine Sg.rg ?_
        refine Sg.iadd (c := ((j_ + 1 : Nat) : Int)) (hx := Sg.rs rfl t113) (hc := by unfold wrap64; omega) (h := ?_)
        refine Sg.mv (v := .int .i64 ((j_ + 1 : Nat) : Int)) (h := ?_)
        first | refine Sg.nl ?_ | refine Sg.nl1 ?_
        exact hK107 _ _ _ hlt_j_ ⟨fun j hj h42_ h43_ h45_ h46_ h47_ h48_ h49_ => (Sg.un (by omega)).trans ((Sg.un (by omega)).trans ((Sg.un (by omega)).trans ((Sg.un (by omega)).trans ((Sg.un (by omega)).trans ((Sg.un (by omega)).trans ((s105 _ (by omega) (by omega) (by omega) (by omega) (by omega) (by omega) (by omega) (by omega)))))))), t108, t109, t110, t111, t112, rfl, ((show _ = Value.int .i64 ((cntTo oldB both j_ + 1 : Nat) : Int) from rfl).trans (cntTo_yes oldB both j_ (hx.trans (congrArg oldB u1.symm)))), ((t115).trans (cntTo_no youngB both j_ (hy.trans (congrArg youngB u1.symm)))), (below_step (below_step (below_step b106 b125) b128) b132)⟩
       ·skip
        refine Sg.ct rfl rfl ?_
        refine Sg.rg ?_
        refine Sg.mv (v := .int .i64 ((cntTo youngB both j_ : Nat) : Int)) (hs := Sg.rs rfl t115) (h := ?_)
        refine Sg.iadd (c := ((cntTo youngB both j_ + 1 : Nat) : Int)) (hc := by unfold wrap64; omega) (h := ?_)
        refine Sg.asg (v := .int .i64 ((cntTo youngB both j_ + 1 : Nat) : Int)) (h := ?_)
        first | refine Sg.nl ?_ | refine Sg.nl1 ?_
        refine Sg.rg ?_
        refine Sg.iadd (c := ((j_ + 1 : Nat) : Int)) (hx := Sg.rs rfl t113) (hc := by unfold wrap64; omega) (h := ?_)
        refine Sg.mv (v := .int .i64 ((j_ + 1 : Nat) : Int)) (h := ?_)
        first | refine Sg.nl ?_ | refine Sg.nl1 ?_
        exact hK107 _ _ _ hlt_j_ ⟨fun j hj h42_ h43_ h45_ h46_ h47_ h48_ h49_ => (Sg.un (by omega)).trans ((Sg.un (by omega)).trans ((Sg.un (by omega)).trans ((Sg.un (by omega)).trans ((Sg.un (by omega)).trans ((Sg.un (by omega)).trans ((Sg.un (by omega)).trans ((s105 _ (by omega) (by omega) (by omega) (by omega) (by omega) (by omega) (by omega) (by omega))))))))), t108, t109, t110, t111, t112, rfl, ((show _ = Value.int .i64 ((cntTo oldB both j_ + 1 : Nat) : Int) from rfl).trans (cntTo_yes oldB both j_ (hx.trans (congrArg oldB u1.symm)))), ((show _ = Value.int .i64 ((cntTo youngB both j_ + 1 : Nat) : Int) from rfl).trans (cntTo_yes youngB both j_ (hy.trans (congrArg youngB u1.symm)))), (below_step (below_step (below_step b106 b125) b128) b132)⟩
     ·skip
      have h134 : both.length = j_ := by omega
      subst h134
      refine Sg.sq ?_
      refine Sg.rg ?_
      refine Sg.ilss (c := false) (hx := Sg.rs rfl t113) (hy := Sg.rs rfl t112) (h := ?_)
      first | refine Sg.nl ?_ | refine Sg.nl1 ?_
      refine Sg.sq ?_
      refine Sg.cf rfl rfl ?_
      first | refine Sg.ex0 ?_ | refine Sg.ex1 ?_
      refine Sg.sq ?_
      refine Sg.rg ?_
      refine Sg.mv (v := .slice A90 both.length c91) (hs := Sg.rs rfl ((s105 38 (by decide) (by decide) (by decide) (by decide) (by decide) (by decide) (by decide) (by decide)).trans ((congrFun hσ101 38).trans rfl))) (h := ?_)
      refine Sg.len (hu := by first | exact Tryz.underlying22 | exact Tryz.underlying26 | exact Tryz.underlying31) (h := ?_)
      refine Sg.mv (v := .int .i64 0) (h := ?_)
      first | refine Sg.nl ?_ | refine Sg.nl1 ?_
      refine Sg.gs fun σ135 hσ136 => ?_
      refine Sg.bl ?_
      refine Sg.lp (both.length) (fun j_ σ' τ' w' => (∀ j, j < 91 → j ≠ 51 → j ≠ 52 → j ≠ 53 → j ≠ 54 → j ≠ 55 → σ' j = σ135 j) ∧ τ' 327 = .slice A23 sums.length c23 ∧ τ' 328 = .int .i64 ((sums.length : Nat) : Int) ∧ τ' 329 = .int .i64 ((i : Nat) : Int) ∧ τ' 409 = .slice A90 both.length c91 ∧ τ' 410 = .int .i64 ((both.length : Nat) : Int) ∧ τ' 411 = .int .i64 ((j_ : Nat) : Int) ∧ Below w104.heap.size w104 w') 0 (Nat.zero_le _) ⟨fun _ _ _ _ _ _ _ => rfl, t108, t109, t110, rfl, rfl, rfl, Below.refl _ _⟩ ?_
      rintro j_ σ137 τ138 w139 hi_j_ ⟨s140, t143, t144, t145, t146, t147, t148, b141⟩ K142 hK142
      by_cases hlt_j_ : j_ < both.length
      ·skip
       obtain ⟨s, u1, u2, u3, u4, u5, u6⟩ := g11 j_ hlt_j_
       have f149 := Kd.C_below f92 (below_step (below_step (below_step b95 b98) b106) b141)
       obtain ⟨ad150, A151, c152, hA153, hc154, hl155, hC156⟩ := at_L2 f149 ((j_ : Nat) : Int) (Int.natCast_nonneg _) (Int.ofNat_lt.2 hlt_j_)
       rw [u1] at hc154 hl155 hC156
       obtain ⟨x, hx⟩ : ∃ x, x = oldB s := ⟨_, rfl⟩
       obtain ⟨y, hy⟩ : ∃ y, y = youngB s := ⟨_, rfl⟩
       rw [← hx] at u2 u5
       rw [← hy] at u3 u6
       refine Sg.sq ?_
       refine Sg.rg ?_
       refine Sg.ilss (c := true) (hx := Sg.rs rfl t148) (hy := Sg.rs rfl t147) (hc := iff_of_true (by omega) rfl) (h := ?_)
       first | refine Sg.nl ?_ | refine Sg.nl1 ?_
       refine Sg.sq ?_
       refine Sg.ct rfl rfl ?_
       first | refine Sg.sk ?_ | refine Sg.sk1 ?_
       refine Sg.sq ?_
       refine Sg.bl ?_
       refine Sg.sq ?_
       refine Sg.rg ?_
       refine Sg.yy (hy := Sg.Xixa (sz := 1) (i := ((j_ : Nat) : Int)) (hu := Tryz.underlying26) (hsz := by kernel_rfl) (h0 := Int.natCast_nonneg _) (h1 := Int.ofNat_lt.2 hlt_j_) (had := by rw [Nat.mul_one]) (ho := rfl) (hx := Sg.rs rfl (t146.trans (congrArg (fun a_ => Value.slice a_ both.length c91) hA153))) (hy := Sg.rs rfl t148)) (h := ?_)
       refine Sg.yy (hy := Sg.Xlds Tryz.underlying31 rfl (Sg.rs rfl rfl) hc154) (h := ?_)
       refine Sg.asg (v := .slice A151 s.length c152) (h := ?_)
       first | refine Sg.nl ?_ | refine Sg.nl1 ?_
       refine Sg.sq ?_
       refine Sg.rg ?_
       refine Sg.mv (v := .slice A151 s.length c152) (h := ?_)
       refine Sg.cl (args := #[.slice A151 s.length c152]) (hf := Tryz.func27) (hargs := Sg.a1 (Sg.rs rfl rfl)) (h := ?_)
       refine (impl_HasOldest.calls k A151 c152 s x true _ hC156 hl155 u2).mono ?_
       rintro _ w157 ⟨rfl, b158⟩
       refine ⟨_, _, rfl, (Sg.ps rfl), ?_⟩
       refine Sg.mv (v := .tuple #[.bool x, .bool true]) (h := ?_)
       refine Sg.ext (v := .bool x) (h := ?_)
       refine Sg.ext (v := .bool true) (h := ?_)
       refine Sg.asg (v := .bool x) (h := ?_)
       refine Sg.asg (v := .bool true) (h := ?_)
       first | refine Sg.nl ?_ | refine Sg.nl1 ?_
       refine Sg.sq ?_
       refine Sg.rg ?_
       refine Sg.mv (v := .slice A151 s.length c152) (h := ?_)
       refine Sg.cl (args := #[.slice A151 s.length c152]) (hf := Tryz.func28) (hargs := Sg.a1 (Sg.rs rfl rfl)) (h := ?_)
       have f159 := Kd.C_below hC156 b158
       refine (impl_HasYoungest.calls k A151 c152 s y true _ f159 hl155 u3).mono ?_
       rintro _ w160 ⟨rfl, b161⟩
       refine ⟨_, _, rfl, (Sg.ps rfl), ?_⟩
       refine Sg.mv (v := .tuple #[.bool y, .bool true]) (h := ?_)
       refine Sg.ext (v := .bool y) (h := ?_)
       refine Sg.ext (v := .bool true) (h := ?_)
       refine Sg.asg (v := .bool y) (h := ?_)
       refine Sg.asg (v := .bool true) (h := ?_)
       first | refine Sg.nl ?_ | refine Sg.nl1 ?_
       refine Sg.sq ?_
       refine Sg.rg ?_
       refine Sg.mv (v := .bool true) (h := ?_)
       refine Sg.nt (b := true) (h := ?_)
       refine Sg.mv (v := .bool false) (h := ?_)
       refine Sg.mv (v := .bool true) (hw := Sg.wy (d := 427) rfl rfl rfl) (h := ?_)
       refine Sg.nt (b := true) (hw := Sg.wy (d := 427) rfl rfl rfl) (h := ?_)
       refine Sg.pk (v := .bool false) (h := ?_)
       refine Sg.mv (v := .bool false) (h := ?_)
       refine Sg.mv (v := .slice A7 oldest.length c7) (hw := Sg.wy (d := 431) rfl rfl rfl) (hs := Sg.rs rfl ((s140 7 (by decide) (by decide) (by decide) (by decide) (by decide) (by decide)).trans ((congrFun hσ136 7).trans ((s105 7 (by decide) (by decide) (by decide) (by decide) (by decide) (by decide) (by decide) (by decide)).trans ((congrFun hσ101 7).trans ((s76 7 (by decide) (by decide) (by decide) (by decide) (by decide) (by decide) (by decide) (by decide) (by decide) (by decide) (by decide) (by decide) (by decide) (by decide) (by decide) (by decide) (by decide) (by decide)).trans ((congrFun hσ72 7).trans ((s25 7 (by decide) (by decide) (by decide) (by decide)).trans ((congrFun hσ21 7).trans h7))))))))) (h := ?_)
       refine Sg.mv (v := .slice A151 s.length c152) (hw := Sg.wy (d := 431) rfl rfl rfl) (h := ?_)
       refine Sg.cl (args := #[.slice A7 oldest.length c7, .slice A151 s.length c152]) (hf := Tryz.func29) (hw := Sg.wy (d := 431) rfl rfl rfl) (hargs := Sg.a2 (Sg.rs rfl rfl) (Sg.rs rfl rfl)) (h := ?_)
       have f162 := Kd.C_below f4 (below_step (below_step (below_step (below_step (below_step (below_step (below_step (below_step (below_step (below_step (below_step (below_step b6 b10) b14) b18) b26) b77) b87) b95) b98) b106) b141) b158) b161)
       have f163 := Kd.C_below f159 b161
       refine (laws_qHasRow.calls k A7 c7 oldest A151 c152 s (op && (g2b && x)) _ f162 p7 f163 hl155 u5).mono ?_
       rintro _ w164 ⟨rfl, d166⟩
       have b165 := d166.below
       refine ⟨_, _, rfl, (Sg.ps rfl), ?_⟩
       refine Sg.mv (v := .slice A90 both.length c91) (hw := Sg.wy (d := 431) rfl rfl rfl) (hs := Sg.rs rfl ((s140 38 (by decide) (by decide) (by decide) (by decide) (by decide) (by decide)).trans ((congrFun hσ136 38).trans ((s105 38 (by decide) (by decide) (by decide) (by decide) (by decide) (by decide) (by decide) (by decide)).trans ((congrFun hσ101 38).trans rfl))))) (h := ?_)
       refine Sg.len (hu := by first | exact Tryz.underlying22 | exact Tryz.underlying26 | exact Tryz.underlying31) (hw := Sg.wy (d := 431) rfl rfl rfl) (h := ?_)
       refine Sg.igtr (c := op) (hw := Sg.wy (d := 431) rfl rfl rfl) (hc := g8) (h := ?_)
       refine Sg.mv (v := .bool op) (hw := Sg.wy (d := 431) rfl rfl rfl) (h := ?_)
       cases op
       ·skip
        refine Sg.off (hw := Sg.yl (d := 438) rfl rfl rfl) (hb := rfl) (h := ?_)
        refine Sg.off (hw := Sg.yl (d := 438) rfl rfl rfl) (hb := rfl) (h := ?_)
        refine Sg.pk (v := .bool false) (hw := Sg.wy (d := 431) rfl rfl rfl) (h := ?_)
        refine Sg.mv (v := .bool false) (hw := Sg.wy (d := 431) rfl rfl rfl) (h := ?_)
        refine Sg.off (hw := Sg.yl (d := 442) rfl rfl rfl) (hb := rfl) (h := ?_)
        refine Sg.pk (v := .bool false) (hw := Sg.wy (d := 431) rfl rfl rfl) (h := ?_)
        refine Sg.bneq (c := false) (hu := Tryz.underlying4) (hw := Sg.wy (d := 431) rfl rfl rfl) (h := ?_)
        refine Sg.pk (v := .bool false) (h := ?_)
        refine Sg.mv (v := .bool false) (h := ?_)
        refine Sg.mv (v := .slice A11 youngest.length c11) (hw := Sg.wy (d := 447) rfl rfl rfl) (hs := Sg.rs rfl ((s140 11 (by decide) (by decide) (by decide) (by decide) (by decide) (by decide)).trans ((congrFun hσ136 11).trans ((s105 11 (by decide) (by decide) (by decide) (by decide) (by decide) (by decide) (by decide) (by decide)).trans ((congrFun hσ101 11).trans ((s76 11 (by decide) (by decide) (by decide) (by decide) (by decide) (by decide) (by decide) (by decide) (by decide) (by decide) (by decide) (by decide) (by decide) (by decide) (by decide) (by decide) (by decide) (by decide)).trans ((congrFun hσ72 11).trans ((s25 11 (by decide) (by decide) (by decide) (by decide)).trans ((congrFun hσ21 11).trans h11))))))))) (h := ?_)
        refine Sg.mv (v := .slice A151 s.length c152) (hw := Sg.wy (d := 447) rfl rfl rfl) (h := ?_)
        refine Sg.cl (args := #[.slice A11 youngest.length c11, .slice A151 s.length c152]) (hf := Tryz.func29) (hw := Sg.wy (d := 447) rfl rfl rfl) (hargs := Sg.a2 (Sg.rs rfl rfl) (Sg.rs rfl rfl)) (h := ?_)
        have f167 := Kd.C_below f8 (below_step (below_step (below_step (below_step (below_step (below_step (below_step (below_step (below_step (below_step (below_step (below_step b10 b14) b18) b26) b77) b87) b95) b98) b106) b141) b158) b161) b165)
        have f168 := Kd.C_below f163 b165
        refine (laws_qHasRow.calls k A11 c11 youngest A151 c152 s false _ f167 p11 f168 hl155 u6).mono ?_
        rintro _ w169 ⟨rfl, d171⟩
        have b170 := d171.below
        refine ⟨_, _, rfl, (Sg.ps rfl), ?_⟩
        refine Sg.mv (v := .slice A90 both.length c91) (hw := Sg.wy (d := 447) rfl rfl rfl) (hs := Sg.rs rfl ((s140 38 (by decide) (by decide) (by decide) (by decide) (by decide) (by decide)).trans ((congrFun hσ136 38).trans ((s105 38 (by decide) (by decide) (by decide) (by decide) (by decide) (by decide) (by decide) (by decide)).trans ((congrFun hσ101 38).trans rfl))))) (h := ?_)
        refine Sg.len (hu := by first | exact Tryz.underlying22 | exact Tryz.underlying26 | exact Tryz.underlying31) (hw := Sg.wy (d := 447) rfl rfl rfl) (h := ?_)
        refine Sg.igtr (c := false) (hw := Sg.wy (d := 447) rfl rfl rfl) (hc := g8) (h := ?_)
        refine Sg.mv (v := .bool false) (hw := Sg.wy (d := 447) rfl rfl rfl) (h := ?_)
        refine Sg.off (hw := Sg.yl (d := 454) rfl rfl rfl) (hb := rfl) (h := ?_)
        refine Sg.off (hw := Sg.yl (d := 454) rfl rfl rfl) (hb := rfl) (h := ?_)
        refine Sg.pk (v := .bool false) (hw := Sg.wy (d := 447) rfl rfl rfl) (h := ?_)
        refine Sg.mv (v := .bool false) (hw := Sg.wy (d := 447) rfl rfl rfl) (h := ?_)
        refine Sg.off (hw := Sg.yl (d := 458) rfl rfl rfl) (hb := rfl) (h := ?_)
        refine Sg.pk (v := .bool false) (hw := Sg.wy (d := 447) rfl rfl rfl) (h := ?_)
        refine Sg.bneq (c := false) (hu := Tryz.underlying4) (hw := Sg.wy (d := 447) rfl rfl rfl) (h := ?_)
        refine Sg.pk (v := .bool false) (h := ?_)
        first | refine Sg.nl ?_ | refine Sg.nl1 ?_
        refine Sg.cf rfl rfl ?_
        first | refine Sg.sk ?_ | refine Sg.sk1 ?_
        refine Sg.rg ?_
        refine Sg.iadd (c := ((j_ + 1 : Nat) : Int)) (hx := Sg.rs rfl t148) (hc := by unfold wrap64; omega) (h := ?_)
        refine Sg.mv (v := .int .i64 ((j_ + 1 : Nat) : Int)) (h := ?_)
        first | refine Sg.nl ?_ | refine Sg.nl1 ?_
        exact hK142 _ _ _ hlt_j_ ⟨fun j hj h51_ h52_ h53_ h54_ h55_ => (Sg.un (by omega)).trans ((Sg.un (by omega)).trans ((Sg.un (by omega)).trans ((Sg.un (by omega)).trans ((Sg.un (by omega)).trans ((s140 _ (by omega) (by omega) (by omega) (by omega) (by omega) (by omega))))))), t143, t144, t145, t146, t147, rfl, (below_step (below_step (below_step (below_step b141 b158) b161) b165) b170)⟩
       ·skip
        refine Sg.mv (v := .int .i64 ((cntTo oldB both both.length : Nat) : Int)) (hw := Sg.wy (d := 438) rfl rfl rfl) (hs := Sg.rs rfl ((s140 42 (by decide) (by decide) (by decide) (by decide) (by decide) (by decide)).trans ((congrFun hσ136 42).trans t114))) (h := ?_)
        refine Sg.ieql (c := g2b) (hw := Sg.wy (d := 438) rfl rfl rfl) (hc := g9) (h := ?_)
        refine Sg.pk (v := .bool g2b) (hw := Sg.wy (d := 431) rfl rfl rfl) (h := ?_)
        refine Sg.mv (v := .bool g2b) (hw := Sg.wy (d := 431) rfl rfl rfl) (h := ?_)
        cases g2b
        ·skip
         refine Sg.off (hw := Sg.yl (d := 442) rfl rfl rfl) (hb := rfl) (h := ?_)
         refine Sg.pk (v := .bool false) (hw := Sg.wy (d := 431) rfl rfl rfl) (h := ?_)
         refine Sg.bneq (c := false) (hu := Tryz.underlying4) (hw := Sg.wy (d := 431) rfl rfl rfl) (h := ?_)
         refine Sg.pk (v := .bool false) (h := ?_)
         refine Sg.mv (v := .bool false) (h := ?_)
         refine Sg.mv (v := .slice A11 youngest.length c11) (hw := Sg.wy (d := 447) rfl rfl rfl) (hs := Sg.rs rfl ((s140 11 (by decide) (by decide) (by decide) (by decide) (by decide) (by decide)).trans ((congrFun hσ136 11).trans ((s105 11 (by decide) (by decide) (by decide) (by decide) (by decide) (by decide) (by decide) (by decide)).trans ((congrFun hσ101 11).trans ((s76 11 (by decide) (by decide) (by decide) (by decide) (by decide) (by decide) (by decide) (by decide) (by decide) (by decide) (by decide) (by decide) (by decide) (by decide) (by decide) (by decide) (by decide) (by decide)).trans ((congrFun hσ72 11).trans ((s25 11 (by decide) (by decide) (by decide) (by decide)).trans ((congrFun hσ21 11).trans h11))))))))) (h := ?_)
         refine Sg.mv (v := .slice A151 s.length c152) (hw := Sg.wy (d := 447) rfl rfl rfl) (h := ?_)
         refine Sg.cl (args := #[.slice A11 youngest.length c11, .slice A151 s.length c152]) (hf := Tryz.func29) (hw := Sg.wy (d := 447) rfl rfl rfl) (hargs := Sg.a2 (Sg.rs rfl rfl) (Sg.rs rfl rfl)) (h := ?_)
         have f172 := Kd.C_below f8 (below_step (below_step (below_step (below_step (below_step (below_step (below_step (below_step (below_step (below_step (below_step (below_step b10 b14) b18) b26) b77) b87) b95) b98) b106) b141) b158) b161) b165)
         have f173 := Kd.C_below f163 b165
         refine (laws_qHasRow.calls k A11 c11 youngest A151 c152 s (g3b && y) _ f172 p11 f173 hl155 u6).mono ?_
         rintro _ w174 ⟨rfl, d176⟩
         have b175 := d176.below
         refine ⟨_, _, rfl, (Sg.ps rfl), ?_⟩
         refine Sg.mv (v := .slice A90 both.length c91) (hw := Sg.wy (d := 447) rfl rfl rfl) (hs := Sg.rs rfl ((s140 38 (by decide) (by decide) (by decide) (by decide) (by decide) (by decide)).trans ((congrFun hσ136 38).trans ((s105 38 (by decide) (by decide) (by decide) (by decide) (by decide) (by decide) (by decide) (by decide)).trans ((congrFun hσ101 38).trans rfl))))) (h := ?_)
         refine Sg.len (hu := by first | exact Tryz.underlying22 | exact Tryz.underlying26 | exact Tryz.underlying31) (hw := Sg.wy (d := 447) rfl rfl rfl) (h := ?_)
         refine Sg.igtr (c := true) (hw := Sg.wy (d := 447) rfl rfl rfl) (hc := g8) (h := ?_)
         refine Sg.mv (v := .bool true) (hw := Sg.wy (d := 447) rfl rfl rfl) (h := ?_)
         refine Sg.mv (v := .int .i64 ((cntTo youngB both both.length : Nat) : Int)) (hw := Sg.wy (d := 454) rfl rfl rfl) (hs := Sg.rs rfl ((s140 43 (by decide) (by decide) (by decide) (by decide) (by decide) (by decide)).trans ((congrFun hσ136 43).trans t115))) (h := ?_)
         refine Sg.ieql (c := g3b) (hw := Sg.wy (d := 454) rfl rfl rfl) (hc := g10) (h := ?_)
         refine Sg.pk (v := .bool g3b) (hw := Sg.wy (d := 447) rfl rfl rfl) (h := ?_)
         refine Sg.mv (v := .bool g3b) (hw := Sg.wy (d := 447) rfl rfl rfl) (h := ?_)
         cases g3b
         ·skip
          refine Sg.off (hw := Sg.yl (d := 458) rfl rfl rfl) (hb := rfl) (h := ?_)
          refine Sg.pk (v := .bool false) (hw := Sg.wy (d := 447) rfl rfl rfl) (h := ?_)
          refine Sg.bneq (c := false) (hu := Tryz.underlying4) (hw := Sg.wy (d := 447) rfl rfl rfl) (h := ?_)
          refine Sg.pk (v := .bool false) (h := ?_)
          first | refine Sg.nl ?_ | refine Sg.nl1 ?_
          refine Sg.cf rfl rfl ?_
          first | refine Sg.sk ?_ | refine Sg.sk1 ?_
          refine Sg.rg ?_
          refine Sg.iadd (c := ((j_ + 1 : Nat) : Int)) (hx := Sg.rs rfl t148) (hc := by unfold wrap64; omega) (h := ?_)
          refine Sg.mv (v := .int .i64 ((j_ + 1 : Nat) : Int)) (h := ?_)
          first | refine Sg.nl ?_ | refine Sg.nl1 ?_
          exact hK142 _ _ _ hlt_j_ ⟨fun j hj h51_ h52_ h53_ h54_ h55_ => (Sg.un (by omega)).trans ((Sg.un (by omega)).trans ((Sg.un (by omega)).trans ((Sg.un (by omega)).trans ((Sg.un (by omega)).trans ((s140 _ (by omega) (by omega) (by omega) (by omega) (by omega) (by omega))))))), t143, t144, t145, t146, t147, rfl, (below_step (below_step (below_step (below_step b141 b158) b161) b165) b175)⟩
         ·skip
          refine Sg.mv (v := .bool y) (hw := Sg.wy (d := 458) rfl rfl rfl) (h := ?_)
          refine Sg.pk (v := .bool y) (hw := Sg.wy (d := 447) rfl rfl rfl) (h := ?_)
          refine Sg.bneq (c := false) (hu := Tryz.underlying4) (hw := Sg.wy (d := 447) rfl rfl rfl) (h := ?_)
          refine Sg.pk (v := .bool false) (h := ?_)
          first | refine Sg.nl ?_ | refine Sg.nl1 ?_
          refine Sg.cf rfl rfl ?_
          first | refine Sg.sk ?_ | refine Sg.sk1 ?_
          refine Sg.rg ?_
          refine Sg.iadd (c := ((j_ + 1 : Nat) : Int)) (hx := Sg.rs rfl t148) (hc := by unfold wrap64; omega) (h := ?_)
          refine Sg.mv (v := .int .i64 ((j_ + 1 : Nat) : Int)) (h := ?_)
          first | refine Sg.nl ?_ | refine Sg.nl1 ?_
          exact hK142 _ _ _ hlt_j_ ⟨fun j hj h51_ h52_ h53_ h54_ h55_ => (Sg.un (by omega)).trans ((Sg.un (by omega)).trans ((Sg.un (by omega)).trans ((Sg.un (by omega)).trans ((Sg.un (by omega)).trans ((s140 _ (by omega) (by omega) (by omega) (by omega) (by omega) (by omega))))))), t143, t144, t145, t146, t147, rfl, (below_step (below_step (below_step (below_step b141 b158) b161) b165) b175)⟩
        ·skip
         refine Sg.mv (v := .bool x) (hw := Sg.wy (d := 442) rfl rfl rfl) (h := ?_)
         refine Sg.pk (v := .bool x) (hw := Sg.wy (d := 431) rfl rfl rfl) (h := ?_)
         refine Sg.bneq (c := false) (hu := Tryz.underlying4) (hw := Sg.wy (d := 431) rfl rfl rfl) (h := ?_)
         refine Sg.pk (v := .bool false) (h := ?_)
         refine Sg.mv (v := .bool false) (h := ?_)
         refine Sg.mv (v := .slice A11 youngest.length c11) (hw := Sg.wy (d := 447) rfl rfl rfl) (hs := Sg.rs rfl ((s140 11 (by decide) (by decide) (by decide) (by decide) (by decide) (by decide)).trans ((congrFun hσ136 11).trans ((s105 11 (by decide) (by decide) (by decide) (by decide) (by decide) (by decide) (by decide) (by decide)).trans ((congrFun hσ101 11).trans ((s76 11 (by decide) (by decide) (by decide) (by decide) (by decide) (by decide) (by decide) (by decide) (by decide) (by decide) (by decide) (by decide) (by decide) (by decide) (by decide) (by decide) (by decide) (by decide)).trans ((congrFun hσ72 11).trans ((s25 11 (by decide) (by decide) (by decide) (by decide)).trans ((congrFun hσ21 11).trans h11))))))))) (h := ?_)
         refine Sg.mv (v := .slice A151 s.length c152) (hw := Sg.wy (d := 447) rfl rfl rfl) (h := ?_)
         refine Sg.cl (args := #[.slice A11 youngest.length c11, .slice A151 s.length c152]) (hf := Tryz.func29) (hw := Sg.wy (d := 447) rfl rfl rfl) (hargs := Sg.a2 (Sg.rs rfl rfl) (Sg.rs rfl rfl)) (h := ?_)
         have f177 := Kd.C_below f8 (below_step (below_step (below_step (below_step (below_step (below_step (below_step (below_step (below_step (below_step (below_step (below_step b10 b14) b18) b26) b77) b87) b95) b98) b106) b141) b158) b161) b165)
         have f178 := Kd.C_below f163 b165
         refine (laws_qHasRow.calls k A11 c11 youngest A151 c152 s (g3b && y) _ f177 p11 f178 hl155 u6).mono ?_
         rintro _ w179 ⟨rfl, d181⟩
         have b180 := d181.below
         refine ⟨_, _, rfl, (Sg.ps rfl), ?_⟩
         refine Sg.mv (v := .slice A90 both.length c91) (hw := Sg.wy (d := 447) rfl rfl rfl) (hs := Sg.rs rfl ((s140 38 (by decide) (by decide) (by decide) (by decide) (by decide) (by decide)).trans ((congrFun hσ136 38).trans ((s105 38 (by decide) (by decide) (by decide) (by decide) (by decide) (by decide) (by decide) (by decide)).trans ((congrFun hσ101 38).trans rfl))))) (h := ?_)
         refine Sg.len (hu := by first | exact Tryz.underlying22 | exact Tryz.underlying26 | exact Tryz.underlying31) (hw := Sg.wy (d := 447) rfl rfl rfl) (h := ?_)
         refine Sg.igtr (c := true) (hw := Sg.wy (d := 447) rfl rfl rfl) (hc := g8) (h := ?_)
         refine Sg.mv (v := .bool true) (hw := Sg.wy (d := 447) rfl rfl rfl) (h := ?_)
         refine Sg.mv (v := .int .i64 ((cntTo youngB both both.length : Nat) : Int)) (hw := Sg.wy (d := 454) rfl rfl rfl) (hs := Sg.rs rfl ((s140 43 (by decide) (by decide) (by decide) (by decide) (by decide) (by decide)).trans ((congrFun hσ136 43).trans t115))) (h := ?_)
         refine Sg.ieql (c := g3b) (hw := Sg.wy (d := 454) rfl rfl rfl) (hc := g10) (h := ?_)
         refine Sg.pk (v := .bool g3b) (hw := Sg.wy (d := 447) rfl rfl rfl) (h := ?_)
         refine Sg.mv (v := .bool g3b) (hw := Sg.wy (d := 447) rfl rfl rfl) (h := ?_)
         cases g3b
         ·skip
          refine Sg.off (hw := Sg.yl (d := 458) rfl rfl rfl) (hb := rfl) (h := ?_)
          refine Sg.pk (v := .bool false) (hw := Sg.wy (d := 447) rfl rfl rfl) (h := ?_)
          refine Sg.bneq (c := false) (hu := Tryz.underlying4) (hw := Sg.wy (d := 447) rfl rfl rfl) (h := ?_)
          refine Sg.pk (v := .bool false) (h := ?_)
          first | refine Sg.nl ?_ | refine Sg.nl1 ?_
          refine Sg.cf rfl rfl ?_
          first | refine Sg.sk ?_ | refine Sg.sk1 ?_
          refine Sg.rg ?_
          refine Sg.iadd (c := ((j_ + 1 : Nat) : Int)) (hx := Sg.rs rfl t148) (hc := by unfold wrap64; omega) (h := ?_)
          refine Sg.mv (v := .int .i64 ((j_ + 1 : Nat) : Int)) (h := ?_)
          first | refine Sg.nl ?_ | refine Sg.nl1 ?_
          exact hK142 _ _ _ hlt_j_ ⟨fun j hj h51_ h52_ h53_ h54_ h55_ => (Sg.un (by omega)).trans ((Sg.un (by omega)).trans ((Sg.un (by omega)).trans ((Sg.un (by omega)).trans ((Sg.un (by omega)).trans ((s140 _ (by omega) (by omega) (by omega) (by omega) (by omega) (by omega))))))), t143, t144, t145, t146, t147, rfl, (below_step (below_step (below_step (below_step b141 b158) b161) b165) b180)⟩
         ·skip
          refine Sg.mv (v := .bool y) (hw := Sg.wy (d := 458) rfl rfl rfl) (h := ?_)
          refine Sg.pk (v := .bool y) (hw := Sg.wy (d := 447) rfl rfl rfl) (h := ?_)
          refine Sg.bneq (c := false) (hu := Tryz.underlying4) (hw := Sg.wy (d := 447) rfl rfl rfl) (h := ?_)
          refine Sg.pk (v := .bool false) (h := ?_)
          first | refine Sg.nl ?_ | refine Sg.nl1 ?_
          refine Sg.cf rfl rfl ?_
          first | refine Sg.sk ?_ | refine Sg.sk1 ?_
          refine Sg.rg ?_
          refine Sg.iadd (c := ((j_ + 1 : Nat) : Int)) (hx := Sg.rs rfl t148) (hc := by unfold wrap64; omega) (h := ?_)
          refine Sg.mv (v := .int .i64 ((j_ + 1 : Nat) : Int)) (h := ?_)
          first | refine Sg.nl ?_ | refine Sg.nl1 ?_
          exact hK142 _ _ _ hlt_j_ ⟨fun j hj h51_ h52_ h53_ h54_ h55_ => (Sg.un (by omega)).trans ((Sg.un (by omega)).trans ((Sg.un (by omega)).trans ((Sg.un (by omega)).trans ((Sg.un (by omega)).trans ((s140 _ (by omega) (by omega) (by omega) (by omega) (by omega) (by omega))))))), t143, t144, t145, t146, t147, rfl, (below_step (below_step (below_step (below_step b141 b158) b161) b165) b180)⟩
      ·skip
       have h182 : both.length = j_ := by omega
       subst h182
       refine Sg.sq ?_
       refine Sg.rg ?_
       refine Sg.ilss (c := false) (hx := Sg.rs rfl t148) (hy := Sg.rs rfl t147) (h := ?_)
       first | refine Sg.nl ?_ | refine Sg.nl1 ?_
       refine Sg.sq ?_
       refine Sg.cf rfl rfl ?_
       first | refine Sg.ex0 ?_ | refine Sg.ex1 ?_
       refine Sg.rg ?_
       refine Sg.iadd (c := ((i + 1 : Nat) : Int)) (hx := Sg.rs rfl t145) (hc := by unfold wrap64; omega) (h := ?_)
       refine Sg.mv (v := .int .i64 ((i + 1 : Nat) : Int)) (h := ?_)
       first | refine Sg.nl ?_ | refine Sg.nl1 ?_
       exact hK78 _ _ _ hlt_i ⟨fun j hj h37_ h38_ h39_ h40_ h41_ h42_ h43_ h45_ h46_ h47_ h48_ h49_ h51_ h52_ h53_ h54_ h55_ => (s140 _ (by omega) (by omega) (by omega) (by omega) (by omega) (by omega)).trans ((congrFun hσ136 _).trans ((s105 _ (by omega) (by omega) (by omega) (by omega) (by omega) (by omega) (by omega) (by omega)).trans ((congrFun hσ101 _).trans ((Sg.un (by omega)).trans ((Sg.un (by omega)).trans ((Sg.un (by omega)).trans ((Sg.un (by omega)).trans ((Sg.un (by omega)).trans ((Sg.un (by omega)).trans ((Sg.un (by omega)).trans ((s76 _ (by omega) (by omega) (by omega) (by omega) (by omega) (by omega) (by omega) (by omega) (by omega) (by omega) (by omega) (by omega) (by omega) (by omega) (by omega) (by omega) (by omega) (by omega))))))))))))), t143, t144, rfl, (below_step (below_step (below_step (below_step (below_step b77 b87) b95) b98) b106) b141)⟩
    ·skip
     have h183 : sums.length = i := by omega
     subst h183
     refine Sg.sq ?_
     refine Sg.rg ?_
     refine Sg.ilss (c := false) (hx := Sg.rs rfl t81) (hy := Sg.rs rfl t80) (h := ?_)
     first | refine Sg.nl ?_ | refine Sg.nl1 ?_
     refine Sg.sq ?_
     refine Sg.cf rfl rfl ?_
     first | refine Sg.ex0 ?_ | refine Sg.ex1 ?_
     exact hK _ _ _ (fun j hj => (s76 _ (by omega) (by omega) (by omega) (by omega) (by omega) (by omega) (by omega) (by omega) (by omega) (by omega) (by omega) (by omega) (by omega) (by omega) (by omega) (by omega) (by omega) (by omega)).trans ((congrFun hσ72 _).trans ((s25 _ (by omega) (by omega) (by omega) (by omega)).trans ((congrFun hσ21 _))))) (below_step (below_step (below_step (below_step (below_step (below_step b2 b6) b10) b14) b18) b26) b77)
theorem g4pF (k : Nat) (A1 : Option Addr) (c1 : Nat) (l1 : List Int) (c : Int) (from_ : Int) (to_ : Int) (products : List Int) (fifteen : Bool) (set_ : List Int) (x : Bool) (z : Bool) (twins : Int) (good : Bool) (n p s : Int) (both : List (List Int)) (eleven tells thirteen : Bool) (σ τ : Sg.Fr) (w : World) {rest : Code} {Q : Exit → Act → World → Prop} (h1 : σ 1 = .slice A1 l1.length c1) (hC1 : Kd.C (Kd.int .u8) w A1 l1.length l1) (hc1 : l1.length ≤ c1)
    (hD2 : spec_DrawSetsOfBoth.f k l1 = some (n, p, s)) (hBI : impl_SetsOfBoth.f n p s = some (both, eleven)) (hBS : spec_SetsOfBoth.f n p s = some (both, eleven)) (hTI : impl_DoesTell.f n p s = some (tells, thirteen)) (hTS : spec_DoesTell.f n p s = some (tells, thirteen)) (hD3 : spec_DrawOneByOldest.f l1 = some (c, from_, to_)) (hOI : impl_OneByOldest.f k c from_ to_ = some (products, fifteen)) (hOS : spec_OneByOldest.f c from_ to_ = some (products, fifteen)) (hD4 : spec_DrawHasOldest.f k l1 = some set_) (hHI : impl_HasOldest.f k set_ = some (x, good)) (hHS : spec_HasOldest.f k set_ = some (x, good)) (hYI : impl_HasYoungest.f k set_ = some (z, good)) (hYS : spec_HasYoungest.f k set_ = some (z, good)) (hWI : impl_TwinsIn.f k set_ = some (twins, good)) (hWS : spec_TwinsIn.f k set_ = some (twins, good)) (hGI : impl_IsSet.f k set_ = some good) (hGS : spec_IsSet.f k set_ = some good) (hW1 : laws_qRows.f k both both = some true) (hW2 : laws_qSame.f k products products = some true) (hE0 : eleven = false → thirteen = false) (hE1 : eleven = true → ((both.length : Int) > 0 ↔ thirteen = true))
    (hK : ∀ σ' τ' w', g4St2 c from_ to_ products fifteen set_ x z twins good σ' w' → Below w.heap.size w w' → rest.wp Tryz.prog Q (Sg.fr 728 (Sg.mix 91 σ' τ')) w') :
    (Code.seq (g4S 17) (Code.seq (g4S 18) (Code.seq (g4S 19) (Code.seq (g4S 20) (Code.seq (g4S 21) (Code.seq (g4S 22) (Code.seq (g4S 23) (Code.seq (g4S 24) (Code.seq (g4S 25) (Code.seq (g4S 26) (Code.seq (g4S 27) (Code.seq (g4S 28) (Code.seq (g4S 29) (Code.seq (g4S 30) (Code.seq (g4S 31) (Code.seq (g4S 32) rest)))))))))))))))).wp Tryz.prog Q (Sg.fr 728 (Sg.mix 91 σ τ)) w := by
  refine Sg.sq ?_
  refine Sg.rg ?_
  refine Sg.mv (v := .slice A1 l1.length c1) (hs := Sg.rs rfl h1) (h := ?_)
  refine Sg.cl (args := #[.slice A1 l1.length c1]) (hf := Tryz.func30) (hargs := Sg.a1 (Sg.rs rfl rfl)) (h := ?_)
  refine (spec_DrawSetsOfBoth.calls k A1 c1 l1 n p s _ hC1 hc1 hD2).mono ?_
  rintro _ w1 ⟨rfl, b2⟩
  refine ⟨_, _, rfl, (Sg.ps rfl), ?_⟩
  refine Sg.mv (v := .tuple #[.int .i64 n, .int .i64 p, .int .i64 s]) (h := ?_)
  refine Sg.ext (v := .int .i64 n) (h := ?_)
  refine Sg.ext (v := .int .i64 p) (h := ?_)
  refine Sg.ext (v := .int .i64 s) (h := ?_)
  refine Sg.asg (v := .int .i64 n) (h := ?_)
  refine Sg.asg (v := .int .i64 p) (h := ?_)
  refine Sg.asg (v := .int .i64 s) (h := ?_)
  first | refine Sg.nl ?_ | refine Sg.nl1 ?_
  refine Sg.gn fun τ1 => ?_
  refine Sg.sq ?_
  refine Sg.rg ?_
  refine Sg.mv (v := .int .i64 n) (h := ?_)
  refine Sg.mv (v := .int .i64 p) (h := ?_)
  refine Sg.mv (v := .int .i64 s) (h := ?_)
  refine Sg.cl (args := #[.int .i64 n, .int .i64 p, .int .i64 s]) (hf := Tryz.func25) (hargs := Sg.a3 (Sg.rs rfl rfl) (Sg.rs rfl rfl) (Sg.rs rfl rfl)) (h := ?_)
  refine (impl_SetsOfBoth.calls n p s both eleven _ hBI).mono ?_
  rintro _ w3 ⟨v5, rfl, r6, b4⟩
  obtain ⟨A7, c8, rfl, f10, f9⟩ := Kd.S_reads r6
  refine ⟨_, _, rfl, (Sg.ps rfl), ?_⟩
  refine Sg.mv (v := .tuple #[.slice A7 both.length c8, .bool eleven]) (h := ?_)
  refine Sg.ext (v := .slice A7 both.length c8) (h := ?_)
  refine Sg.ext (v := .bool eleven) (h := ?_)
  refine Sg.asg (v := .slice A7 both.length c8) (h := ?_)
  refine Sg.asg (v := .bool eleven) (h := ?_)
  first | refine Sg.nl ?_ | refine Sg.nl1 ?_
  refine Sg.gn fun τ2 => ?_
  refine Sg.sq ?_
  refine Sg.rg ?_
  refine Sg.mv (v := .int .i64 n) (h := ?_)
  refine Sg.mv (v := .int .i64 p) (h := ?_)
  refine Sg.mv (v := .int .i64 s) (h := ?_)
  refine Sg.cl (args := #[.int .i64 n, .int .i64 p, .int .i64 s]) (hf := Tryz.func31) (hargs := Sg.a3 (Sg.rs rfl rfl) (Sg.rs rfl rfl) (Sg.rs rfl rfl)) (h := ?_)
  refine (spec_SetsOfBoth.calls n p s both eleven _ hBS).mono ?_
  rintro _ w11 ⟨A15, c16, rfl, f18, f17, b12⟩
  refine ⟨_, _, rfl, (Sg.ps rfl), ?_⟩
  refine Sg.mv (v := .tuple #[.slice A15 both.length c16, .bool eleven]) (h := ?_)
  refine Sg.ext (v := .slice A15 both.length c16) (h := ?_)
  refine Sg.ext (v := .bool eleven) (h := ?_)
  refine Sg.asg (v := .slice A15 both.length c16) (h := ?_)
  refine Sg.asg (v := .bool eleven) (h := ?_)
  first | refine Sg.nl ?_ | refine Sg.nl1 ?_
  refine Sg.gn fun τ3 => ?_
  refine Sg.sq ?_
  refine Sg.rg ?_
  refine Sg.mv (v := .int .i64 n) (h := ?_)
  refine Sg.mv (v := .int .i64 p) (h := ?_)
  refine Sg.mv (v := .int .i64 s) (h := ?_)
  refine Sg.cl (args := #[.int .i64 n, .int .i64 p, .int .i64 s]) (hf := Tryz.func26) (hargs := Sg.a3 (Sg.rs rfl rfl) (Sg.rs rfl rfl) (Sg.rs rfl rfl)) (h := ?_)
  refine (impl_DoesTell.calls n p s tells thirteen _ hTI).mono ?_
  rintro _ w19 ⟨rfl, b20⟩
  refine ⟨_, _, rfl, (Sg.ps rfl), ?_⟩
  refine Sg.mv (v := .tuple #[.bool tells, .bool thirteen]) (h := ?_)
  refine Sg.ext (v := .bool tells) (h := ?_)
  refine Sg.ext (v := .bool thirteen) (h := ?_)
  refine Sg.asg (v := .bool tells) (h := ?_)
  refine Sg.asg (v := .bool thirteen) (h := ?_)
  first | refine Sg.nl ?_ | refine Sg.nl1 ?_
  refine Sg.gn fun τ4 => ?_
  refine Sg.sq ?_
  refine Sg.rg ?_
  refine Sg.mv (v := .int .i64 n) (h := ?_)
  refine Sg.mv (v := .int .i64 p) (h := ?_)
  refine Sg.mv (v := .int .i64 s) (h := ?_)
  refine Sg.cl (args := #[.int .i64 n, .int .i64 p, .int .i64 s]) (hf := Tryz.func32) (hargs := Sg.a3 (Sg.rs rfl rfl) (Sg.rs rfl rfl) (Sg.rs rfl rfl)) (h := ?_)
  refine (spec_DoesTell.calls n p s tells thirteen _ hTS).mono ?_
  rintro _ w21 ⟨rfl, b22⟩
  refine ⟨_, _, rfl, (Sg.ps rfl), ?_⟩
  refine Sg.mv (v := .tuple #[.bool tells, .bool thirteen]) (h := ?_)
  refine Sg.ext (v := .bool tells) (h := ?_)
  refine Sg.ext (v := .bool thirteen) (h := ?_)
  refine Sg.asg (v := .bool tells) (h := ?_)
  refine Sg.asg (v := .bool thirteen) (h := ?_)
  first | refine Sg.nl ?_ | refine Sg.nl1 ?_
  refine Sg.gn fun τ5 => ?_
  refine Sg.sq ?_
  refine Sg.rg ?_
  refine Sg.mv (v := .slice A1 l1.length c1) (hs := Sg.rs rfl h1) (h := ?_)
  refine Sg.cl (args := #[.slice A1 l1.length c1]) (hf := Tryz.func33) (hargs := Sg.a1 (Sg.rs rfl rfl)) (h := ?_)
  have f23 := Kd.C_below hC1 (below_step (below_step (below_step (below_step b2 b4) b12) b20) b22)
  refine (spec_DrawOneByOldest.calls A1 c1 l1 c from_ to_ _ f23 hc1 hD3).mono ?_
  rintro _ w24 ⟨rfl, b25⟩
  refine ⟨_, _, rfl, (Sg.ps rfl), ?_⟩
  refine Sg.mv (v := .tuple #[.int .i64 c, .int .i64 from_, .int .i64 to_]) (h := ?_)
  refine Sg.ext (v := .int .i64 c) (h := ?_)
  refine Sg.ext (v := .int .i64 from_) (h := ?_)
  refine Sg.ext (v := .int .i64 to_) (h := ?_)
  refine Sg.asg (v := .int .i64 c) (h := ?_)
  refine Sg.asg (v := .int .i64 from_) (h := ?_)
  refine Sg.asg (v := .int .i64 to_) (h := ?_)
  first | refine Sg.nl ?_ | refine Sg.nl1 ?_
  refine Sg.gn fun τ6 => ?_
  refine Sg.sq ?_
  refine Sg.rg ?_
  refine Sg.mv (v := .int .i64 c) (h := ?_)
  refine Sg.mv (v := .int .i64 from_) (h := ?_)
  refine Sg.mv (v := .int .i64 to_) (h := ?_)
  refine Sg.cl (args := #[.int .i64 c, .int .i64 from_, .int .i64 to_]) (hf := Tryz.func34) (hargs := Sg.a3 (Sg.rs rfl rfl) (Sg.rs rfl rfl) (Sg.rs rfl rfl)) (h := ?_)
  refine (impl_OneByOldest.calls k c from_ to_ products fifteen _ hOI).mono ?_
  rintro _ w26 ⟨v28, rfl, r29, b27⟩
  obtain ⟨A30, c31, rfl, f33, f32⟩ := Kd.R_reads r29
  refine ⟨_, _, rfl, (Sg.ps rfl), ?_⟩
  refine Sg.mv (v := .tuple #[.slice A30 products.length c31, .bool fifteen]) (h := ?_)
  refine Sg.ext (v := .slice A30 products.length c31) (h := ?_)
  refine Sg.ext (v := .bool fifteen) (h := ?_)
  refine Sg.asg (v := .slice A30 products.length c31) (h := ?_)
  refine Sg.asg (v := .bool fifteen) (h := ?_)
  first | refine Sg.nl ?_ | refine Sg.nl1 ?_
  refine Sg.gn fun τ7 => ?_
  refine Sg.sq ?_
  refine Sg.rg ?_
  refine Sg.mv (v := .int .i64 c) (h := ?_)
  refine Sg.mv (v := .int .i64 from_) (h := ?_)
  refine Sg.mv (v := .int .i64 to_) (h := ?_)
  refine Sg.cl (args := #[.int .i64 c, .int .i64 from_, .int .i64 to_]) (hf := Tryz.func35) (hargs := Sg.a3 (Sg.rs rfl rfl) (Sg.rs rfl rfl) (Sg.rs rfl rfl)) (h := ?_)
  refine (spec_OneByOldest.calls c from_ to_ products fifteen _ hOS).mono ?_
  rintro _ w34 ⟨v36, rfl, r37, b35⟩
  obtain ⟨A38, c39, rfl, f41, f40⟩ := Kd.R_reads r37
  refine ⟨_, _, rfl, (Sg.ps rfl), ?_⟩
  refine Sg.mv (v := .tuple #[.slice A38 products.length c39, .bool fifteen]) (h := ?_)
  refine Sg.ext (v := .slice A38 products.length c39) (h := ?_)
  refine Sg.ext (v := .bool fifteen) (h := ?_)
  refine Sg.asg (v := .slice A38 products.length c39) (h := ?_)
  refine Sg.asg (v := .bool fifteen) (h := ?_)
  first | refine Sg.nl ?_ | refine Sg.nl1 ?_
  refine Sg.gn fun τ8 => ?_
  refine Sg.sq ?_
  refine Sg.rg ?_
  refine Sg.mv (v := .slice A1 l1.length c1) (hs := Sg.rs rfl h1) (h := ?_)
  refine Sg.cl (args := #[.slice A1 l1.length c1]) (hf := Tryz.func36) (hargs := Sg.a1 (Sg.rs rfl rfl)) (h := ?_)
  have f42 := Kd.C_below f23 (below_step (below_step b25 b27) b35)
  refine (spec_DrawHasOldest.calls k A1 c1 l1 set_ _ f42 hc1 hD4).mono ?_
  rintro _ w43 ⟨v45, rfl, r46, b44⟩
  obtain ⟨A47, c48, rfl, f50, f49⟩ := Kd.R_reads r46
  refine ⟨_, _, rfl, (Sg.ps rfl), ?_⟩
  refine Sg.asg (v := .slice A47 set_.length c48) (h := ?_)
  first | refine Sg.nl ?_ | refine Sg.nl1 ?_
  refine Sg.gn fun τ9 => ?_
  refine Sg.sq ?_
  refine Sg.rg ?_
  refine Sg.mv (v := .slice A47 set_.length c48) (h := ?_)
  refine Sg.cl (args := #[.slice A47 set_.length c48]) (hf := Tryz.func27) (hargs := Sg.a1 (Sg.rs rfl rfl)) (h := ?_)
  refine (impl_HasOldest.calls k A47 c48 set_ x good _ f49 f50 hHI).mono ?_
  rintro _ w51 ⟨rfl, b52⟩
  refine ⟨_, _, rfl, (Sg.ps rfl), ?_⟩
  refine Sg.mv (v := .tuple #[.bool x, .bool good]) (h := ?_)
  refine Sg.ext (v := .bool x) (h := ?_)
  refine Sg.ext (v := .bool good) (h := ?_)
  refine Sg.asg (v := .bool x) (h := ?_)
  refine Sg.asg (v := .bool good) (h := ?_)
  first | refine Sg.nl ?_ | refine Sg.nl1 ?_
  refine Sg.gn fun τ10 => ?_
  refine Sg.sq ?_
  refine Sg.rg ?_
  refine Sg.mv (v := .slice A47 set_.length c48) (h := ?_)
  refine Sg.cl (args := #[.slice A47 set_.length c48]) (hf := Tryz.func37) (hargs := Sg.a1 (Sg.rs rfl rfl)) (h := ?_)
  have f53 := Kd.C_below f49 b52
  refine (spec_HasOldest.calls k A47 c48 set_ x good _ f53 f50 hHS).mono ?_
  rintro _ w54 ⟨rfl, d56⟩
  have b55 := d56.below
  refine ⟨_, _, rfl, (Sg.ps rfl), ?_⟩
  refine Sg.mv (v := .tuple #[.bool x, .bool good]) (h := ?_)
  refine Sg.ext (v := .bool x) (h := ?_)
  refine Sg.ext (v := .bool good) (h := ?_)
  refine Sg.asg (v := .bool x) (h := ?_)
  refine Sg.asg (v := .bool good) (h := ?_)
  first | refine Sg.nl ?_ | refine Sg.nl1 ?_
  refine Sg.gn fun τ11 => ?_
  refine Sg.sq ?_
  refine Sg.rg ?_
  refine Sg.mv (v := .slice A47 set_.length c48) (h := ?_)
  refine Sg.cl (args := #[.slice A47 set_.length c48]) (hf := Tryz.func28) (hargs := Sg.a1 (Sg.rs rfl rfl)) (h := ?_)
  have f57 := Kd.C_below f53 b55
  refine (impl_HasYoungest.calls k A47 c48 set_ z good _ f57 f50 hYI).mono ?_
  rintro _ w58 ⟨rfl, b59⟩
  refine ⟨_, _, rfl, (Sg.ps rfl), ?_⟩
  refine Sg.mv (v := .tuple #[.bool z, .bool good]) (h := ?_)
  refine Sg.ext (v := .bool z) (h := ?_)
  refine Sg.ext (v := .bool good) (h := ?_)
  refine Sg.asg (v := .bool z) (h := ?_)
  refine Sg.asg (v := .bool good) (h := ?_)
  first | refine Sg.nl ?_ | refine Sg.nl1 ?_
  refine Sg.gn fun τ12 => ?_
  refine Sg.sq ?_
  refine Sg.rg ?_
  refine Sg.mv (v := .slice A47 set_.length c48) (h := ?_)
  refine Sg.cl (args := #[.slice A47 set_.length c48]) (hf := Tryz.func38) (hargs := Sg.a1 (Sg.rs rfl rfl)) (h := ?_)
  have f60 := Kd.C_below f57 b59
  refine (spec_HasYoungest.calls k A47 c48 set_ z good _ f60 f50 hYS).mono ?_
  rintro _ w61 ⟨rfl, d63⟩
  have b62 := d63.below
  refine ⟨_, _, rfl, (Sg.ps rfl), ?_⟩
  refine Sg.mv (v := .tuple #[.bool z, .bool good]) (h := ?_)
  refine Sg.ext (v := .bool z) (h := ?_)
  refine Sg.ext (v := .bool good) (h := ?_)
  refine Sg.asg (v := .bool z) (h := ?_)
  refine Sg.asg (v := .bool good) (h := ?_)
  first | refine Sg.nl ?_ | refine Sg.nl1 ?_
  refine Sg.gn fun τ13 => ?_
  refine Sg.sq ?_
  refine Sg.rg ?_
  refine Sg.mv (v := .slice A47 set_.length c48) (h := ?_)
  refine Sg.cl (args := #[.slice A47 set_.length c48]) (hf := Tryz.func39) (hargs := Sg.a1 (Sg.rs rfl rfl)) (h := ?_)
  have f64 := Kd.C_below f60 b62
  refine (impl_TwinsIn.calls k A47 c48 set_ twins good _ f64 f50 hWI).mono ?_
  rintro _ w65 ⟨rfl, b66⟩
  refine ⟨_, _, rfl, (Sg.ps rfl), ?_⟩
  refine Sg.mv (v := .tuple #[.int .i64 twins, .bool good]) (h := ?_)
  refine Sg.ext (v := .int .i64 twins) (h := ?_)
  refine Sg.ext (v := .bool good) (h := ?_)
  refine Sg.asg (v := .int .i64 twins) (h := ?_)
  refine Sg.asg (v := .bool good) (h := ?_)
  first | refine Sg.nl ?_ | refine Sg.nl1 ?_
  refine Sg.gn fun τ14 => ?_
  refine Sg.sq ?_
  refine Sg.rg ?_
  refine Sg.mv (v := .slice A47 set_.length c48) (h := ?_)
  refine Sg.cl (args := #[.slice A47 set_.length c48]) (hf := Tryz.func40) (hargs := Sg.a1 (Sg.rs rfl rfl)) (h := ?_)
  have f67 := Kd.C_below f64 b66
  refine (spec_TwinsIn.calls k A47 c48 set_ twins good _ f67 f50 hWS).mono ?_
  rintro _ w68 ⟨rfl, d70⟩
  have b69 := d70.below
  refine ⟨_, _, rfl, (Sg.ps rfl), ?_⟩
  refine Sg.mv (v := .tuple #[.int .i64 twins, .bool good]) (h := ?_)
  refine Sg.ext (v := .int .i64 twins) (h := ?_)
  refine Sg.ext (v := .bool good) (h := ?_)
  refine Sg.asg (v := .int .i64 twins) (h := ?_)
  refine Sg.asg (v := .bool good) (h := ?_)
  first | refine Sg.nl ?_ | refine Sg.nl1 ?_
  refine Sg.gn fun τ15 => ?_
  refine Sg.sq ?_
  refine Sg.sq ?_
  refine Sg.rg ?_
  refine Sg.mv (v := .bool eleven) (h := ?_)
  refine Sg.mv (v := .bool eleven) (h := ?_)
  refine Sg.bneq (c := false) (hu := Tryz.underlying4) (h := ?_)
  refine Sg.mv (v := .bool false) (h := ?_)
  refine Sg.mv (v := .slice A7 both.length c8) (hw := Sg.wy (d := 554) rfl rfl rfl) (h := ?_)
  refine Sg.mv (v := .slice A15 both.length c16) (hw := Sg.wy (d := 554) rfl rfl rfl) (h := ?_)
  refine Sg.cl (args := #[.slice A7 both.length c8, .slice A15 both.length c16]) (hf := Tryz.func18) (hw := Sg.wy (d := 554) rfl rfl rfl) (hargs := Sg.a2 (Sg.rs rfl rfl) (Sg.rs rfl rfl)) (h := ?_)
  have f71 := Kd.C_below f9 (below_step (below_step (below_step (below_step (below_step (below_step (below_step (below_step (below_step (below_step (below_step (below_step b12 b20) b22) b25) b27) b35) b44) b52) b55) b59) b62) b66) b69)
  have f72 := Kd.C_below f17 (below_step (below_step (below_step (below_step (below_step (below_step (below_step (below_step (below_step (below_step (below_step b20 b22) b25) b27) b35) b44) b52) b55) b59) b62) b66) b69)
  refine (laws_qRows.calls k A7 c8 both A15 c16 both true _ f71 f10 f72 f18 hW1).mono ?_
  rintro _ w73 ⟨rfl, d75⟩
  have b74 := d75.below
  refine ⟨_, _, rfl, (Sg.ps rfl), ?_⟩
  refine Sg.nt (b := true) (hw := Sg.wy (d := 554) rfl rfl rfl) (h := ?_)
  refine Sg.pk (v := .bool false) (h := ?_)
  refine Sg.mv (v := .bool false) (h := ?_)
  refine Sg.mv (v := .bool thirteen) (hw := Sg.wy (d := 560) rfl rfl rfl) (h := ?_)
  refine Sg.mv (v := .bool thirteen) (hw := Sg.wy (d := 560) rfl rfl rfl) (h := ?_)
  refine Sg.bneq (c := false) (hu := Tryz.underlying4) (hw := Sg.wy (d := 560) rfl rfl rfl) (h := ?_)
  refine Sg.pk (v := .bool false) (h := ?_)
  refine Sg.mv (v := .bool false) (h := ?_)
  refine Sg.mv (v := .bool tells) (hw := Sg.wy (d := 565) rfl rfl rfl) (h := ?_)
  refine Sg.mv (v := .bool tells) (hw := Sg.wy (d := 565) rfl rfl rfl) (h := ?_)
  refine Sg.bneq (c := false) (hu := Tryz.underlying4) (hw := Sg.wy (d := 565) rfl rfl rfl) (h := ?_)
  refine Sg.pk (v := .bool false) (h := ?_)
  refine Sg.mv (v := .bool false) (h := ?_)
  refine Sg.mv (v := .bool fifteen) (hw := Sg.wy (d := 570) rfl rfl rfl) (h := ?_)
  refine Sg.mv (v := .bool fifteen) (hw := Sg.wy (d := 570) rfl rfl rfl) (h := ?_)
  refine Sg.bneq (c := false) (hu := Tryz.underlying4) (hw := Sg.wy (d := 570) rfl rfl rfl) (h := ?_)
  refine Sg.pk (v := .bool false) (h := ?_)
  refine Sg.mv (v := .bool false) (h := ?_)
  refine Sg.mv (v := .slice A30 products.length c31) (hw := Sg.wy (d := 575) rfl rfl rfl) (h := ?_)
  refine Sg.mv (v := .slice A38 products.length c39) (hw := Sg.wy (d := 575) rfl rfl rfl) (h := ?_)
  refine Sg.cl (args := #[.slice A30 products.length c31, .slice A38 products.length c39]) (hf := Tryz.func19) (hw := Sg.wy (d := 575) rfl rfl rfl) (hargs := Sg.a2 (Sg.rs rfl rfl) (Sg.rs rfl rfl)) (h := ?_)
  have f76 := Kd.C_below f32 (below_step (below_step (below_step (below_step (below_step (below_step (below_step (below_step b35 b44) b52) b55) b59) b62) b66) b69) b74)
  have f77 := Kd.C_below f40 (below_step (below_step (below_step (below_step (below_step (below_step (below_step b44 b52) b55) b59) b62) b66) b69) b74)
  refine (laws_qSame.calls k A30 c31 products A38 c39 products true _ f76 f33 f77 f41 hW2).mono ?_
  rintro _ w78 ⟨rfl, d80⟩
  have b79 := d80.below
  refine ⟨_, _, rfl, (Sg.ps rfl), ?_⟩
  refine Sg.nt (b := true) (hw := Sg.wy (d := 575) rfl rfl rfl) (h := ?_)
  refine Sg.pk (v := .bool false) (h := ?_)
  refine Sg.mv (v := .bool false) (h := ?_)
  refine Sg.mv (v := .bool good) (hw := Sg.wy (d := 581) rfl rfl rfl) (h := ?_)
  refine Sg.mv (v := .bool good) (hw := Sg.wy (d := 581) rfl rfl rfl) (h := ?_)
  refine Sg.bneq (c := false) (hu := Tryz.underlying4) (hw := Sg.wy (d := 581) rfl rfl rfl) (h := ?_)
  refine Sg.pk (v := .bool false) (h := ?_)
  refine Sg.mv (v := .bool false) (h := ?_)
  refine Sg.mv (v := .bool x) (hw := Sg.wy (d := 586) rfl rfl rfl) (h := ?_)
  refine Sg.mv (v := .bool x) (hw := Sg.wy (d := 586) rfl rfl rfl) (h := ?_)
  refine Sg.bneq (c := false) (hu := Tryz.underlying4) (hw := Sg.wy (d := 586) rfl rfl rfl) (h := ?_)
  refine Sg.pk (v := .bool false) (h := ?_)
  refine Sg.mv (v := .bool false) (h := ?_)
  refine Sg.mv (v := .bool good) (hw := Sg.wy (d := 591) rfl rfl rfl) (h := ?_)
  refine Sg.mv (v := .bool good) (hw := Sg.wy (d := 591) rfl rfl rfl) (h := ?_)
  refine Sg.bneq (c := false) (hu := Tryz.underlying4) (hw := Sg.wy (d := 591) rfl rfl rfl) (h := ?_)
  refine Sg.pk (v := .bool false) (h := ?_)
  refine Sg.mv (v := .bool false) (h := ?_)
  refine Sg.mv (v := .bool z) (hw := Sg.wy (d := 596) rfl rfl rfl) (h := ?_)
  refine Sg.mv (v := .bool z) (hw := Sg.wy (d := 596) rfl rfl rfl) (h := ?_)
  refine Sg.bneq (c := false) (hu := Tryz.underlying4) (hw := Sg.wy (d := 596) rfl rfl rfl) (h := ?_)
  refine Sg.pk (v := .bool false) (h := ?_)
  refine Sg.mv (v := .bool false) (h := ?_)
  refine Sg.mv (v := .bool good) (hw := Sg.wy (d := 601) rfl rfl rfl) (h := ?_)
  refine Sg.mv (v := .bool good) (hw := Sg.wy (d := 601) rfl rfl rfl) (h := ?_)
  refine Sg.bneq (c := false) (hu := Tryz.underlying4) (hw := Sg.wy (d := 601) rfl rfl rfl) (h := ?_)
  refine Sg.pk (v := .bool false) (h := ?_)
  refine Sg.mv (v := .bool false) (h := ?_)
  refine Sg.mv (v := .int .i64 twins) (hw := Sg.wy (d := 606) rfl rfl rfl) (h := ?_)
  refine Sg.mv (v := .int .i64 twins) (hw := Sg.wy (d := 606) rfl rfl rfl) (h := ?_)
  refine Sg.ineq (c := false) (hw := Sg.wy (d := 606) rfl rfl rfl) (h := ?_)
  refine Sg.pk (v := .bool false) (h := ?_)
  refine Sg.mv (v := .bool false) (h := ?_)
  refine Sg.mv (v := .bool thirteen) (hw := Sg.wy (d := 611) rfl rfl rfl) (h := ?_)
  refine Sg.mv (v := .bool eleven) (hw := Sg.wy (d := 611) rfl rfl rfl) (h := ?_)
  refine Sg.mv (v := .bool eleven) (hw := Sg.wy (d := 611) rfl rfl rfl) (h := ?_)
  cases eleven
  ·skip
   obtain rfl : thirteen = false := hE0 rfl
   refine Sg.off (hw := Sg.yl (d := 614) rfl rfl rfl) (hb := rfl) (h := ?_)
   refine Sg.off (hw := Sg.yl (d := 614) rfl rfl rfl) (hb := rfl) (h := ?_)
   refine Sg.off (hw := Sg.yl (d := 614) rfl rfl rfl) (hb := rfl) (h := ?_)
   refine Sg.pk (v := .bool false) (hw := Sg.wy (d := 611) rfl rfl rfl) (h := ?_)
   refine Sg.bneq (c := false) (hu := Tryz.underlying4) (hw := Sg.wy (d := 611) rfl rfl rfl) (h := ?_)
   refine Sg.pk (v := .bool false) (h := ?_)
   refine Sg.mv (v := .bool false) (h := ?_)
   refine Sg.mv (v := .bool good) (hw := Sg.wy (d := 621) rfl rfl rfl) (h := ?_)
   refine Sg.mv (v := .slice A47 set_.length c48) (hw := Sg.wy (d := 621) rfl rfl rfl) (h := ?_)
   refine Sg.cl (args := #[.slice A47 set_.length c48]) (hf := Tryz.func22) (hw := Sg.wy (d := 621) rfl rfl rfl) (hargs := Sg.a1 (Sg.rs rfl rfl)) (h := ?_)
   have f81 := Kd.C_below f67 (below_step (below_step b69 b74) b79)
   refine (impl_IsSet.calls k A47 c48 set_ good _ f81 f50 hGI).mono ?_
   rintro _ w82 ⟨rfl, b83⟩
   refine ⟨_, _, rfl, (Sg.ps rfl), ?_⟩
   refine Sg.bneq (c := false) (hu := Tryz.underlying4) (hw := Sg.wy (d := 621) rfl rfl rfl) (h := ?_)
   refine Sg.pk (v := .bool false) (h := ?_)
   refine Sg.mv (v := .bool false) (h := ?_)
   refine Sg.mv (v := .slice A47 set_.length c48) (hw := Sg.wy (d := 627) rfl rfl rfl) (h := ?_)
   refine Sg.cl (args := #[.slice A47 set_.length c48]) (hf := Tryz.func22) (hw := Sg.wy (d := 627) rfl rfl rfl) (hargs := Sg.a1 (Sg.rs rfl rfl)) (h := ?_)
   have f84 := Kd.C_below f81 b83
   refine (impl_IsSet.calls k A47 c48 set_ good _ f84 f50 hGI).mono ?_
   rintro _ w85 ⟨rfl, b86⟩
   refine ⟨_, _, rfl, (Sg.ps rfl), ?_⟩
   refine Sg.mv (v := .slice A47 set_.length c48) (hw := Sg.wy (d := 627) rfl rfl rfl) (h := ?_)
   refine Sg.cl (args := #[.slice A47 set_.length c48]) (hf := Tryz.func41) (hw := Sg.wy (d := 627) rfl rfl rfl) (hargs := Sg.a1 (Sg.rs rfl rfl)) (h := ?_)
   have f87 := Kd.C_below f84 b86
   refine (spec_IsSet.calls k A47 c48 set_ good _ f87 f50 hGS).mono ?_
   rintro _ w88 ⟨rfl, d90⟩
   have b89 := d90.below
   refine ⟨_, _, rfl, (Sg.ps rfl), ?_⟩
   refine Sg.bneq (c := false) (hu := Tryz.underlying4) (hw := Sg.wy (d := 627) rfl rfl rfl) (h := ?_)
   refine Sg.pk (v := .bool false) (h := ?_)
   refine Sg.mv (v := .bool false) (h := ?_)
   refine Sg.mv (v := .bool good) (hw := Sg.wy (d := 634) rfl rfl rfl) (h := ?_)
   refine Sg.mv (v := .bool good) (hw := Sg.wy (d := 634) rfl rfl rfl) (h := ?_)
   refine Sg.bneq (c := false) (hu := Tryz.underlying4) (hw := Sg.wy (d := 634) rfl rfl rfl) (h := ?_)
   refine Sg.pk (v := .bool false) (h := ?_)
   refine Sg.mv (v := .bool false) (h := ?_)
   refine Sg.mv (v := .bool good) (hw := Sg.wy (d := 639) rfl rfl rfl) (h := ?_)
   refine Sg.mv (v := .bool good) (hw := Sg.wy (d := 639) rfl rfl rfl) (h := ?_)
   refine Sg.bneq (c := false) (hu := Tryz.underlying4) (hw := Sg.wy (d := 639) rfl rfl rfl) (h := ?_)
   refine Sg.pk (v := .bool false) (h := ?_)
   first | refine Sg.nl ?_ | refine Sg.nl1 ?_
   refine Sg.cf rfl rfl ?_
   first | refine Sg.sk ?_ | refine Sg.sk1 ?_
   refine Sg.gn fun τ16 => ?_
   have f91 := Kd.C_below f76 (below_step (below_step (below_step b79 b83) b86) b89)
   have f92 := Kd.C_below f87 b89
   exact hK _ _ _ ⟨A30, c31, A47, c48, ⟨rfl, rfl, rfl, rfl, rfl, rfl, rfl, rfl, rfl, rfl⟩, ⟨f91, f33⟩, ⟨f92, f50⟩⟩ (below_step (below_step (below_step (below_step (below_step (below_step (below_step (below_step (below_step (below_step (below_step (below_step (below_step (below_step (below_step (below_step (below_step (below_step (below_step b2 b4) b12) b20) b22) b25) b27) b35) b44) b52) b55) b59) b62) b66) b69) b74) b79) b83) b86) b89)
  ·skip
   refine Sg.mv (v := .slice A7 both.length c8) (hw := Sg.wy (d := 614) rfl rfl rfl) (h := ?_)
   refine Sg.len (hu := by first | exact Tryz.underlying22 | exact Tryz.underlying26 | exact Tryz.underlying31) (hw := Sg.wy (d := 614) rfl rfl rfl) (h := ?_)
   refine Sg.igtr (c := thirteen) (hw := Sg.wy (d := 614) rfl rfl rfl) (hc := hE1 rfl) (h := ?_)
   refine Sg.pk (v := .bool thirteen) (hw := Sg.wy (d := 611) rfl rfl rfl) (h := ?_)
   refine Sg.bneq (c := false) (hu := Tryz.underlying4) (hw := Sg.wy (d := 611) rfl rfl rfl) (h := ?_)
   refine Sg.pk (v := .bool false) (h := ?_)
   refine Sg.mv (v := .bool false) (h := ?_)
   refine Sg.mv (v := .bool good) (hw := Sg.wy (d := 621) rfl rfl rfl) (h := ?_)
   refine Sg.mv (v := .slice A47 set_.length c48) (hw := Sg.wy (d := 621) rfl rfl rfl) (h := ?_)
   refine Sg.cl (args := #[.slice A47 set_.length c48]) (hf := Tryz.func22) (hw := Sg.wy (d := 621) rfl rfl rfl) (hargs := Sg.a1 (Sg.rs rfl rfl)) (h := ?_)
   have f93 := Kd.C_below f67 (below_step (below_step b69 b74) b79)
   refine (impl_IsSet.calls k A47 c48 set_ good _ f93 f50 hGI).mono ?_
   rintro _ w94 ⟨rfl, b95⟩
   refine ⟨_, _, rfl, (Sg.ps rfl), ?_⟩
   refine Sg.bneq (c := false) (hu := Tryz.underlying4) (hw := Sg.wy (d := 621) rfl rfl rfl) (h := ?_)
   refine Sg.pk (v := .bool false) (h := ?_)
   refine Sg.mv (v := .bool false) (h := ?_)
   refine Sg.mv (v := .slice A47 set_.length c48) (hw := Sg.wy (d := 627) rfl rfl rfl) (h := ?_)
   refine Sg.cl (args := #[.slice A47 set_.length c48]) (hf := Tryz.func22) (hw := Sg.wy (d := 627) rfl rfl rfl) (hargs := Sg.a1 (Sg.rs rfl rfl)) (h := ?_)
   have f96 := Kd.C_below f93 b95
   refine (impl_IsSet.calls k A47 c48 set_ good _ f96 f50 hGI).mono ?_
   rintro _ w97 ⟨rfl, b98⟩
   refine ⟨_, _, rfl, (Sg.ps rfl), ?_⟩
   refine Sg.mv (v := .slice A47 set_.length c48) (hw := Sg.wy (d := 627) rfl rfl rfl) (h := ?_)
   refine Sg.cl (args := #[.slice A47 set_.length c48]) (hf := Tryz.func41) (hw := Sg.wy (d := 627) rfl rfl rfl) (hargs := Sg.a1 (Sg.rs rfl rfl)) (h := ?_)
   have f99 := Kd.C_below f96 b98
   refine (spec_IsSet.calls k A47 c48 set_ good _ f99 f50 hGS).mono ?_
   rintro _ w100 ⟨rfl, d102⟩
   have b101 := d102.below
   refine ⟨_, _, rfl, (Sg.ps rfl), ?_⟩
   refine Sg.bneq (c := false) (hu := Tryz.underlying4) (hw := Sg.wy (d := 627) rfl rfl rfl) (h := ?_)
   refine Sg.pk (v := .bool false) (h := ?_)
   refine Sg.mv (v := .bool false) (h := ?_)
   refine Sg.mv (v := .bool good) (hw := Sg.wy (d := 634) rfl rfl rfl) (h := ?_)
   refine Sg.mv (v := .bool good) (hw := Sg.wy (d := 634) rfl rfl rfl) (h := ?_)
   refine Sg.bneq (c := false) (hu := Tryz.underlying4) (hw := Sg.wy (d := 634) rfl rfl rfl) (h := ?_)
   refine Sg.pk (v := .bool false) (h := ?_)
   refine Sg.mv (v := .bool false) (h := ?_)
   refine Sg.mv (v := .bool good) (hw := Sg.wy (d := 639) rfl rfl rfl) (h := ?_)
   refine Sg.mv (v := .bool good) (hw := Sg.wy (d := 639) rfl rfl rfl) (h := ?_)
   refine Sg.bneq (c := false) (hu := Tryz.underlying4) (hw := Sg.wy (d := 639) rfl rfl rfl) (h := ?_)
   refine Sg.pk (v := .bool false) (h := ?_)
   first | refine Sg.nl ?_ | refine Sg.nl1 ?_
   refine Sg.cf rfl rfl ?_
   first | refine Sg.sk ?_ | refine Sg.sk1 ?_
   refine Sg.gn fun τ16 => ?_
   have f103 := Kd.C_below f76 (below_step (below_step (below_step b79 b95) b98) b101)
   have f104 := Kd.C_below f99 b101
   exact hK _ _ _ ⟨A30, c31, A47, c48, ⟨rfl, rfl, rfl, rfl, rfl, rfl, rfl, rfl, rfl, rfl⟩, ⟨f103, f33⟩, ⟨f104, f50⟩⟩ (below_step (below_step (below_step (below_step (below_step (below_step (below_step (below_step (below_step (below_step (below_step (below_step (below_step (below_step (below_step (below_step (below_step (below_step (below_step b2 b4) b12) b20) b22) b25) b27) b35) b44) b52) b55) b59) b62) b66) b69) b74) b79) b95) b98) b101)
theorem g4pG (k : Nat) (c : Int) (from_ : Int) (to_ : Int) (products : List Int) (fifteen : Bool) (set_ : List Int) (x : Bool) (z : Bool) (twins : Int) (good : Bool) (σ τ : Sg.Fr) (w : World) {rest : Code} {Q : Exit → Act → World → Prop} (hQp : ∀ c (a : Act) d v w, Q (.panic c) (a.put d v) w → Q (.panic c) a w) (hQ : ∀ σ' τ' w', σ' 4 = .bool true → Below w.heap.size w w' → Q .ret (Sg.fr 728 (Sg.mix 91 σ' τ')) w') (hSt : g4St2 c from_ to_ products fifteen set_ x z twins good σ w)
    (hG_ : fifteen = true → laws_qRises.f k products = some true ∧ products.length ≤ 1000000 ∧ ∀ i : Nat, i < products.length → ∃ (p : Int) (row : List (List Int)), rd products ((i : Nat) : Int) = p ∧ ToldF true c p row true ∧ row.length = 1 ∧ from_ ≤ p ∧ p ≤ to_)
    (hK : ∀ σ' τ' w', (∀ j, j < 87 → σ' j = σ j) → Below w.heap.size w w' → rest.wp Tryz.prog Q (Sg.fr 728 (Sg.mix 91 σ' τ')) w') :
    (Code.seq (g4S 33) rest).wp Tryz.prog Q (Sg.fr 728 (Sg.mix 91 σ τ)) w := by
  obtain ⟨A70, c70, A74, c74, ⟨h67, h68, h69, h70, h71, h74, h75, h79, h83, h84⟩, ⟨q70, p70⟩, ⟨q74, p74⟩⟩ := hSt
  refine Sg.sq ?_
  refine Sg.sq ?_
  refine Sg.rg ?_
  refine Sg.mv (v := .bool fifteen) (hs := Sg.rs rfl h71) (h := ?_)
  first | refine Sg.nl ?_ | refine Sg.nl1 ?_
  cases fifteen
  ·skip
   refine Sg.cf rfl rfl ?_
   first | refine Sg.sk ?_ | refine Sg.sk1 ?_
   exact hK _ _ _ (fun j hj => rfl) (Below.refl _ _)
  ·skip
   obtain ⟨e1, e2, e3⟩ := hG_ rfl
   refine Sg.ct rfl rfl ?_
   refine Sg.sq ?_
   refine Sg.sq ?_
   refine Sg.rg ?_
   refine Sg.mv (v := .slice A70 products.length c70) (hs := Sg.rs rfl h70) (h := ?_)
   refine Sg.cl (args := #[.slice A70 products.length c70]) (hf := Tryz.func21) (hargs := Sg.a1 (Sg.rs rfl rfl)) (h := ?_)
   refine (laws_qRises.calls k A70 c70 products true _ q70 p70 e1).mono ?_
   rintro _ w1 ⟨rfl, d3⟩
   have b2 := d3.below
   refine ⟨_, _, rfl, (Sg.ps rfl), ?_⟩
   refine Sg.nt (b := true) (h := ?_)
   first | refine Sg.nl ?_ | refine Sg.nl1 ?_
   refine Sg.cf rfl rfl ?_
   first | refine Sg.sk ?_ | refine Sg.sk1 ?_
   refine Sg.sq ?_
   refine Sg.rg ?_
   refine Sg.mv (v := .slice A70 products.length c70) (hs := Sg.rs rfl h70) (h := ?_)
   refine Sg.len (hu := by first | exact Tryz.underlying22 | exact Tryz.underlying26 | exact Tryz.underlying31) (h := ?_)
   refine Sg.mv (v := .int .i64 0) (h := ?_)
   first | refine Sg.nl ?_ | refine Sg.nl1 ?_
   refine Sg.gs fun σ4 hσ5 => ?_
   refine Sg.bl ?_
   refine Sg.lp (products.length) (fun i σ' τ' w' => (∀ j, j < 91 → j ≠ 87 → j ≠ 88 → j ≠ 89 → j ≠ 90 → σ' j = σ4 j) ∧ τ' 648 = .slice A70 products.length c70 ∧ τ' 649 = .int .i64 ((products.length : Nat) : Int) ∧ τ' 650 = .int .i64 ((i : Nat) : Int) ∧ Below w1.heap.size w1 w') 0 (Nat.zero_le _) ⟨fun _ _ _ _ _ _ => rfl, rfl, rfl, rfl, Below.refl _ _⟩ ?_
   rintro i σ6 τ7 w8 hi_i ⟨s9, t12, t13, t14, b10⟩ K11 hK11
   by_cases hlt_i : i < products.length
   ·skip
    obtain ⟨p, row, g1, g2, g3, g4, g5⟩ := e3 i hlt_i
    have f15 := Kd.C_below q70 (below_step b2 b10)
    obtain ⟨ad16, hA17, hc18⟩ := Kd.at_int f15 ((i : Nat) : Int) (Int.natCast_nonneg _) (Int.ofNat_lt.2 hlt_i)
    rw [g1] at hc18
    refine Sg.sq ?_
    refine Sg.rg ?_
    refine Sg.ilss (c := true) (hx := Sg.rs rfl t14) (hy := Sg.rs rfl t13) (hc := iff_of_true (by omega) rfl) (h := ?_)
    first | refine Sg.nl ?_ | refine Sg.nl1 ?_
    refine Sg.sq ?_
    refine Sg.ct rfl rfl ?_
    first | refine Sg.sk ?_ | refine Sg.sk1 ?_
    refine Sg.sq ?_
    refine Sg.bl ?_
    refine Sg.sq ?_
    refine Sg.rg ?_
    refine Sg.mv (v := .int .i64 ((i : Nat) : Int)) (hs := Sg.rs rfl t14) (h := ?_)
    refine Sg.yy (hy := Sg.Xixa (sz := 1) (i := ((i : Nat) : Int)) (hu := Tryz.underlying31) (hsz := by kernel_rfl) (h0 := Int.natCast_nonneg _) (h1 := Int.ofNat_lt.2 hlt_i) (had := by rw [Nat.mul_one]) (ho := rfl) (hx := Sg.rs rfl (t12.trans (congrArg (fun a_ => Value.slice a_ products.length c70) hA17))) (hy := Sg.rs rfl t14)) (h := ?_)
    refine Sg.yy (hy := Sg.Xldi (hu := Tryz.underlying3) (hc := hc18)) (h := ?_)
    refine Sg.asg (v := .int .i64 ((i : Nat) : Int)) (h := ?_)
    refine Sg.asg (v := .int .i64 p) (h := ?_)
    first | refine Sg.nl ?_ | refine Sg.nl1 ?_
    refine Sg.sq ?_
    refine Sg.rg ?_
    refine Sg.mv (v := .int .i64 c) (hs := Sg.rs rfl ((s9 67 (by decide) (by decide) (by decide) (by decide) (by decide)).trans ((congrFun hσ5 67).trans h67))) (h := ?_)
    refine Sg.mv (v := .int .i64 p) (h := ?_)
    refine Sg.cl (args := #[.int .i64 c, .int .i64 p]) (hf := Tryz.func6) (hargs := Sg.a2 (Sg.rs rfl rfl) (Sg.rs rfl rfl)) (h := ?_)
    refine (impl_ToldByOldestS.calls c p row true _ g2).mono ?_
    rintro _ w19 ⟨v21, rfl, r22, b20⟩
    obtain ⟨A23, c24, rfl, f26, f25⟩ := Kd.S_reads r22
    refine ⟨_, _, rfl, (Sg.ps rfl), ?_⟩
    refine Sg.mv (v := .tuple #[.slice A23 row.length c24, .bool true]) (h := ?_)
    refine Sg.ext (v := .slice A23 row.length c24) (h := ?_)
    refine Sg.ext (v := .bool true) (h := ?_)
    refine Sg.asg (v := .slice A23 row.length c24) (h := ?_)
    refine Sg.asg (v := .bool true) (h := ?_)
    first | refine Sg.nl ?_ | refine Sg.nl1 ?_
    refine Sg.sq ?_
    by_cases hi10 : ((i : Nat) : Int) > 10
    ·skip
     refine Sg.rg ?_
     refine Sg.mv (v := .int .i64 p) (h := ?_)
     refine Sg.mv (v := .int .i64 from_) (hs := Sg.rs rfl ((s9 68 (by decide) (by decide) (by decide) (by decide) (by decide)).trans ((congrFun hσ5 68).trans h68))) (h := ?_)
     refine Sg.ilss (c := false) (hc := iff_of_false (by omega) Bool.false_ne_true) (h := ?_)
     refine Sg.mv (v := .bool false) (h := ?_)
     refine Sg.mv (v := .int .i64 p) (hw := Sg.wy (d := 664) rfl rfl rfl) (h := ?_)
     refine Sg.mv (v := .int .i64 to_) (hw := Sg.wy (d := 664) rfl rfl rfl) (hs := Sg.rs rfl ((s9 69 (by decide) (by decide) (by decide) (by decide) (by decide)).trans ((congrFun hσ5 69).trans h69))) (h := ?_)
     refine Sg.igtr (c := false) (hw := Sg.wy (d := 664) rfl rfl rfl) (hc := iff_of_false (by omega) Bool.false_ne_true) (h := ?_)
     refine Sg.pk (v := .bool false) (h := ?_)
     refine Sg.mv (v := .bool false) (h := ?_)
     refine Sg.mv (v := .bool true) (hw := Sg.wy (d := 669) rfl rfl rfl) (h := ?_)
     refine Sg.nt (b := true) (hw := Sg.wy (d := 669) rfl rfl rfl) (h := ?_)
     refine Sg.pk (v := .bool false) (h := ?_)
     refine Sg.mv (v := .bool false) (h := ?_)
     refine Sg.mv (v := .slice A23 row.length c24) (hw := Sg.wy (d := 673) rfl rfl rfl) (h := ?_)
     refine Sg.len (hu := by first | exact Tryz.underlying22 | exact Tryz.underlying26 | exact Tryz.underlying31) (hw := Sg.wy (d := 673) rfl rfl rfl) (h := ?_)
     refine Sg.ineq (c := false) (hw := Sg.wy (d := 673) rfl rfl rfl) (hc := iff_of_false (by omega) Bool.false_ne_true) (h := ?_)
     refine Sg.pk (v := .bool false) (h := ?_)
     refine Sg.mv (v := .bool false) (h := ?_)
     refine Sg.mv (v := .int .i64 ((i : Nat) : Int)) (hw := Sg.wy (d := 678) rfl rfl rfl) (h := ?_)
     refine Sg.igtr (c := true) (hw := Sg.wy (d := 678) rfl rfl rfl) (hc := iff_of_true hi10 rfl) (h := ?_)
     refine Sg.pk (v := .bool true) (h := ?_)
     first | refine Sg.nl ?_ | refine Sg.nl1 ?_
     refine Sg.ct rfl rfl ?_
     refine Sg.sq ?_
     refine Sg.rg ?_
     refine Sg.mv (v := .int .i64 p) (h := ?_)
     refine Sg.mv (v := .int .i64 from_) (hs := Sg.rs rfl ((s9 68 (by decide) (by decide) (by decide) (by decide) (by decide)).trans ((congrFun hσ5 68).trans h68))) (h := ?_)
     refine Sg.igeq (c := true) (hc := iff_of_true (by omega) rfl) (h := ?_)
     refine Sg.mv (v := .bool true) (h := ?_)
     refine Sg.mv (v := .int .i64 p) (hw := Sg.wy (d := 685) rfl rfl rfl) (h := ?_)
     refine Sg.mv (v := .int .i64 to_) (hw := Sg.wy (d := 685) rfl rfl rfl) (hs := Sg.rs rfl ((s9 69 (by decide) (by decide) (by decide) (by decide) (by decide)).trans ((congrFun hσ5 69).trans h69))) (h := ?_)
     refine Sg.ileq (c := true) (hw := Sg.wy (d := 685) rfl rfl rfl) (hc := iff_of_true (by omega) rfl) (h := ?_)
     refine Sg.pk (v := .bool true) (h := ?_)
     refine Sg.mv (v := .bool true) (h := ?_)
     refine Sg.mv (v := .int .i64 ((i : Nat) : Int)) (hw := Sg.wy (d := 690) rfl rfl rfl) (h := ?_)
     refine Sg.igtr (c := true) (hw := Sg.wy (d := 690) rfl rfl rfl) (hc := iff_of_true hi10 rfl) (h := ?_)
     refine Sg.pk (v := .bool true) (h := ?_)
     refine Sg.asg (v := .bool true) (h := ?_)
     first | refine Sg.nl ?_ | refine Sg.nl1 ?_
     refine Sg.rt0 ?_
     exact hQ _ _ _ rfl (below_step (below_step b2 b10) b20)
    ·skip
     refine Sg.rg ?_
     refine Sg.mv (v := .int .i64 p) (h := ?_)
     refine Sg.mv (v := .int .i64 from_) (hs := Sg.rs rfl ((s9 68 (by decide) (by decide) (by decide) (by decide) (by decide)).trans ((congrFun hσ5 68).trans h68))) (h := ?_)
     refine Sg.ilss (c := false) (hc := iff_of_false (by omega) Bool.false_ne_true) (h := ?_)
     refine Sg.mv (v := .bool false) (h := ?_)
     refine Sg.mv (v := .int .i64 p) (hw := Sg.wy (d := 664) rfl rfl rfl) (h := ?_)
     refine Sg.mv (v := .int .i64 to_) (hw := Sg.wy (d := 664) rfl rfl rfl) (hs := Sg.rs rfl ((s9 69 (by decide) (by decide) (by decide) (by decide) (by decide)).trans ((congrFun hσ5 69).trans h69))) (h := ?_)
     refine Sg.igtr (c := false) (hw := Sg.wy (d := 664) rfl rfl rfl) (hc := iff_of_false (by omega) Bool.false_ne_true) (h := ?_)
     refine Sg.pk (v := .bool false) (h := ?_)
     refine Sg.mv (v := .bool false) (h := ?_)
     refine Sg.mv (v := .bool true) (hw := Sg.wy (d := 669) rfl rfl rfl) (h := ?_)
     refine Sg.nt (b := true) (hw := Sg.wy (d := 669) rfl rfl rfl) (h := ?_)
     refine Sg.pk (v := .bool false) (h := ?_)
     refine Sg.mv (v := .bool false) (h := ?_)
     refine Sg.mv (v := .slice A23 row.length c24) (hw := Sg.wy (d := 673) rfl rfl rfl) (h := ?_)
     refine Sg.len (hu := by first | exact Tryz.underlying22 | exact Tryz.underlying26 | exact Tryz.underlying31) (hw := Sg.wy (d := 673) rfl rfl rfl) (h := ?_)
     refine Sg.ineq (c := false) (hw := Sg.wy (d := 673) rfl rfl rfl) (hc := iff_of_false (by omega) Bool.false_ne_true) (h := ?_)
     refine Sg.pk (v := .bool false) (h := ?_)
     refine Sg.mv (v := .bool false) (h := ?_)
     refine Sg.mv (v := .int .i64 ((i : Nat) : Int)) (hw := Sg.wy (d := 678) rfl rfl rfl) (h := ?_)
     refine Sg.igtr (c := false) (hw := Sg.wy (d := 678) rfl rfl rfl) (hc := iff_of_false hi10 Bool.false_ne_true) (h := ?_)
     refine Sg.pk (v := .bool false) (h := ?_)
     first | refine Sg.nl ?_ | refine Sg.nl1 ?_
     refine Sg.cf rfl rfl ?_
     first | refine Sg.sk ?_ | refine Sg.sk1 ?_
     refine Sg.rg ?_
     refine Sg.iadd (c := ((i + 1 : Nat) : Int)) (hx := Sg.rs rfl t14) (hc := by unfold wrap64; omega) (h := ?_)
     refine Sg.mv (v := .int .i64 ((i + 1 : Nat) : Int)) (h := ?_)
     first | refine Sg.nl ?_ | refine Sg.nl1 ?_
     exact hK11 _ _ _ hlt_i ⟨fun j hj h87_ h88_ h89_ h90_ => (Sg.un (by omega)).trans ((Sg.un (by omega)).trans ((Sg.un (by omega)).trans ((Sg.un (by omega)).trans ((s9 _ (by omega) (by omega) (by omega) (by omega) (by omega)))))), t12, t13, rfl, (below_step b10 b20)⟩
   ·skip
    have h27 : products.length = i := by omega
    subst h27
    refine Sg.sq ?_
    refine Sg.rg ?_
    refine Sg.ilss (c := false) (hx := Sg.rs rfl t14) (hy := Sg.rs rfl t13) (h := ?_)
    first | refine Sg.nl ?_ | refine Sg.nl1 ?_
    refine Sg.sq ?_
    refine Sg.cf rfl rfl ?_
    first | refine Sg.ex0 ?_ | refine Sg.ex1 ?_
    exact hK _ _ _ (fun j hj => (s9 _ (by omega) (by omega) (by omega) (by omega) (by omega)).trans ((congrFun hσ5 _))) (below_step b2 b10)
theorem g4pT (k : Nat) (c : Int) (from_ : Int) (to_ : Int) (products : List Int) (fifteen : Bool) (set_ : List Int) (x : Bool) (z : Bool) (twins : Int) (good : Bool) (σ τ : Sg.Fr) (w : World) {rest : Code} {Q : Exit → Act → World → Prop} (hQp : ∀ c (a : Act) d v w, Q (.panic c) (a.put d v) w → Q (.panic c) a w) (hSt : g4St2 c from_ to_ products fifteen set_ x z twins good σ w)
    (hT_ : good = true → ((set_.length : Nat) : Int) > 1 → (x = true → z = true → ((set_.length : Nat) : Int) < 4 → twins = 0) ∧ (twins = 0 → x = true ∧ z = true))
    (hK : ∀ σ' τ' w', (∀ j, j < 87 → σ' j = σ j) → Below w.heap.size w w' → rest.wp Tryz.prog Q (Sg.fr 728 (Sg.mix 91 σ' τ')) w') :
    (Code.seq (g4S 34) rest).wp Tryz.prog Q (Sg.fr 728 (Sg.mix 91 σ τ)) w := by
  obtain ⟨A70, c70, A74, c74, ⟨h67, h68, h69, h70, h71, h74, h75, h79, h83, h84⟩, ⟨q70, p70⟩, ⟨q74, p74⟩⟩ := hSt
  obtain ⟨gt1, hgt⟩ : ∃ b : Bool, (((set_.length : Nat) : Int) > 1 ↔ b = true) := ⟨decide _, decide_eq_true_iff.symm⟩
  obtain ⟨lt4, hlt⟩ : ∃ b : Bool, (((set_.length : Nat) : Int) < 4 ↔ b = true) := ⟨decide _, decide_eq_true_iff.symm⟩
  obtain ⟨tz, htz⟩ : ∃ b : Bool, (twins = 0 ↔ b = true) := ⟨decide _, decide_eq_true_iff.symm⟩
  have hn : twins ≠ 0 ↔ (!tz) = true := by rw [ne_eq, htz]; cases tz <;> simp
  have hT : good = true → gt1 = true → (x = true → z = true → lt4 = true → tz = true) ∧ (tz = true → x = true ∧ z = true) := fun a b => by
    rw [← hgt] at b
    rw [← hlt, ← htz]
    exact hT_ a b
  refine Sg.sq ?_
  refine Sg.sq ?_
  refine Sg.rg ?_
  refine Sg.mv (v := .bool good) (hs := Sg.rs rfl h84) (h := ?_)
  refine Sg.mv (v := .bool good) (h := ?_)
  cases good
  ·skip
   refine Sg.off (hw := Sg.yl (d := 696) rfl rfl rfl) (hb := rfl) (h := ?_)
   refine Sg.off (hw := Sg.yl (d := 696) rfl rfl rfl) (hb := rfl) (h := ?_)
   refine Sg.off (hw := Sg.yl (d := 696) rfl rfl rfl) (hb := rfl) (h := ?_)
   refine Sg.pk (v := .bool false) (h := ?_)
   refine Sg.mv (v := .bool false) (h := ?_)
   refine Sg.off (hw := Sg.yl (d := 701) rfl rfl rfl) (hb := rfl) (h := ?_)
   refine Sg.off (hw := Sg.yl (d := 701) rfl rfl rfl) (hb := rfl) (h := ?_)
   refine Sg.offu (Sg.yu (d := 703) rfl rfl rfl) (Sg.ps rfl) ?_
   refine Sg.off (hw := Sg.yl (d := 701) rfl rfl rfl) (hb := rfl) (h := ?_)
   refine Sg.off (hw := Sg.yl (d := 701) rfl rfl rfl) (hb := rfl) (h := ?_)
   refine Sg.offu (Sg.yu (d := 706) rfl rfl rfl) (Sg.ps rfl) ?_
   refine Sg.offu (Sg.yu (d := 706) rfl rfl rfl) (Sg.ps rfl) ?_
   refine Sg.offu (Sg.yu (d := 706) rfl rfl rfl) (Sg.ps rfl) ?_
   refine Sg.off (hw := Sg.yl (d := 701) rfl rfl rfl) (hb := rfl) (h := ?_)
   refine Sg.off (hw := Sg.yl (d := 701) rfl rfl rfl) (hb := rfl) (h := ?_)
   refine Sg.offu (Sg.yu (d := 711) rfl rfl rfl) (Sg.ps rfl) ?_
   refine Sg.offu (Sg.yu (d := 711) rfl rfl rfl) (Sg.ps rfl) ?_
   refine Sg.off (hw := Sg.yl (d := 701) rfl rfl rfl) (hb := rfl) (h := ?_)
   refine Sg.off (hw := Sg.yl (d := 701) rfl rfl rfl) (hb := rfl) (h := ?_)
   refine Sg.offu (Sg.yu (d := 715) rfl rfl rfl) (Sg.ps rfl) ?_
   refine Sg.offu (Sg.yu (d := 715) rfl rfl rfl) (Sg.ps rfl) ?_
   refine Sg.offu (Sg.yu (d := 715) rfl rfl rfl) (Sg.ps rfl) ?_
   refine Sg.offu (Sg.yu (d := 718) rfl rfl rfl) (Sg.ps rfl) ?_
   refine Sg.offu (Sg.yu (d := 718) rfl rfl rfl) (Sg.ps rfl) ?_
   refine Sg.offu (Sg.yu (d := 718) rfl rfl rfl) (Sg.ps rfl) ?_
   refine Sg.offu (Sg.yu (d := 721) rfl rfl rfl) (Sg.ps rfl) ?_
   refine Sg.offu (Sg.yu (d := 721) rfl rfl rfl) (Sg.ps rfl) ?_
   refine Sg.offu (Sg.yu (d := 718) rfl rfl rfl) (Sg.ps rfl) ?_
   refine Sg.offu (Sg.yu (d := 715) rfl rfl rfl) (Sg.ps rfl) ?_
   refine Sg.off (hw := Sg.yl (d := 701) rfl rfl rfl) (hb := rfl) (h := ?_)
   refine Sg.pk (v := .bool false) (h := ?_)
   first | refine Sg.nl ?_ | refine Sg.nl1 ?_
   refine Sg.cf rfl rfl ?_
   first | refine Sg.sk ?_ | refine Sg.sk1 ?_
   exact hK _ _ _ (fun j hj => rfl) (Below.refl _ _)
  ·skip
   refine Sg.mv (v := .slice A74 set_.length c74) (hw := Sg.wy (d := 696) rfl rfl rfl) (hs := Sg.rs rfl h74) (h := ?_)
   refine Sg.len (hu := by first | exact Tryz.underlying22 | exact Tryz.underlying26 | exact Tryz.underlying31) (hw := Sg.wy (d := 696) rfl rfl rfl) (h := ?_)
   refine Sg.igtr (c := gt1) (hw := Sg.wy (d := 696) rfl rfl rfl) (hc := hgt) (h := ?_)
   refine Sg.pk (v := .bool gt1) (h := ?_)
   refine Sg.mv (v := .bool gt1) (h := ?_)
   cases gt1
   ·skip
    refine Sg.off (hw := Sg.yl (d := 701) rfl rfl rfl) (hb := rfl) (h := ?_)
    refine Sg.off (hw := Sg.yl (d := 701) rfl rfl rfl) (hb := rfl) (h := ?_)
    refine Sg.offu (Sg.yu (d := 703) rfl rfl rfl) (Sg.ps rfl) ?_
    refine Sg.off (hw := Sg.yl (d := 701) rfl rfl rfl) (hb := rfl) (h := ?_)
    refine Sg.off (hw := Sg.yl (d := 701) rfl rfl rfl) (hb := rfl) (h := ?_)
    refine Sg.offu (Sg.yu (d := 706) rfl rfl rfl) (Sg.ps rfl) ?_
    refine Sg.offu (Sg.yu (d := 706) rfl rfl rfl) (Sg.ps rfl) ?_
    refine Sg.offu (Sg.yu (d := 706) rfl rfl rfl) (Sg.ps rfl) ?_
    refine Sg.off (hw := Sg.yl (d := 701) rfl rfl rfl) (hb := rfl) (h := ?_)
    refine Sg.off (hw := Sg.yl (d := 701) rfl rfl rfl) (hb := rfl) (h := ?_)
    refine Sg.offu (Sg.yu (d := 711) rfl rfl rfl) (Sg.ps rfl) ?_
    refine Sg.offu (Sg.yu (d := 711) rfl rfl rfl) (Sg.ps rfl) ?_
    refine Sg.off (hw := Sg.yl (d := 701) rfl rfl rfl) (hb := rfl) (h := ?_)
    refine Sg.off (hw := Sg.yl (d := 701) rfl rfl rfl) (hb := rfl) (h := ?_)
    refine Sg.offu (Sg.yu (d := 715) rfl rfl rfl) (Sg.ps rfl) ?_
    refine Sg.offu (Sg.yu (d := 715) rfl rfl rfl) (Sg.ps rfl) ?_
    refine Sg.offu (Sg.yu (d := 715) rfl rfl rfl) (Sg.ps rfl) ?_
    refine Sg.offu (Sg.yu (d := 718) rfl rfl rfl) (Sg.ps rfl) ?_
    refine Sg.offu (Sg.yu (d := 718) rfl rfl rfl) (Sg.ps rfl) ?_
    refine Sg.offu (Sg.yu (d := 718) rfl rfl rfl) (Sg.ps rfl) ?_
    refine Sg.offu (Sg.yu (d := 721) rfl rfl rfl) (Sg.ps rfl) ?_
    refine Sg.offu (Sg.yu (d := 721) rfl rfl rfl) (Sg.ps rfl) ?_
    refine Sg.offu (Sg.yu (d := 718) rfl rfl rfl) (Sg.ps rfl) ?_
    refine Sg.offu (Sg.yu (d := 715) rfl rfl rfl) (Sg.ps rfl) ?_
    refine Sg.off (hw := Sg.yl (d := 701) rfl rfl rfl) (hb := rfl) (h := ?_)
    refine Sg.pk (v := .bool false) (h := ?_)
    first | refine Sg.nl ?_ | refine Sg.nl1 ?_
    refine Sg.cf rfl rfl ?_
    first | refine Sg.sk ?_ | refine Sg.sk1 ?_
    exact hK _ _ _ (fun j hj => rfl) (Below.refl _ _)
   ·skip
    refine Sg.mv (v := .bool x) (hw := Sg.wy (d := 701) rfl rfl rfl) (hs := Sg.rs rfl h75) (h := ?_)
    refine Sg.mv (v := .bool x) (hw := Sg.wy (d := 701) rfl rfl rfl) (h := ?_)
    cases x
    ·skip
     refine Sg.off (hw := Sg.yl (d := 703) rfl rfl rfl) (hb := rfl) (h := ?_)
     refine Sg.pk (v := .bool false) (hw := Sg.wy (d := 701) rfl rfl rfl) (h := ?_)
     refine Sg.mv (v := .bool false) (hw := Sg.wy (d := 701) rfl rfl rfl) (h := ?_)
     refine Sg.off (hw := Sg.yl (d := 706) rfl rfl rfl) (hb := rfl) (h := ?_)
     refine Sg.off (hw := Sg.yl (d := 706) rfl rfl rfl) (hb := rfl) (h := ?_)
     refine Sg.off (hw := Sg.yl (d := 706) rfl rfl rfl) (hb := rfl) (h := ?_)
     refine Sg.pk (v := .bool false) (hw := Sg.wy (d := 701) rfl rfl rfl) (h := ?_)
     refine Sg.mv (v := .bool false) (hw := Sg.wy (d := 701) rfl rfl rfl) (h := ?_)
     refine Sg.off (hw := Sg.yl (d := 711) rfl rfl rfl) (hb := rfl) (h := ?_)
     refine Sg.off (hw := Sg.yl (d := 711) rfl rfl rfl) (hb := rfl) (h := ?_)
     refine Sg.pk (v := .bool false) (hw := Sg.wy (d := 701) rfl rfl rfl) (h := ?_)
     refine Sg.mv (v := .bool false) (hw := Sg.wy (d := 701) rfl rfl rfl) (h := ?_)
     refine Sg.mv (v := .int .i64 twins) (hw := Sg.wy (d := 715) rfl rfl rfl) (hs := Sg.rs rfl h83) (h := ?_)
     refine Sg.ieql (c := tz) (hw := Sg.wy (d := 715) rfl rfl rfl) (hc := htz) (h := ?_)
     refine Sg.mv (v := .bool tz) (hw := Sg.wy (d := 715) rfl rfl rfl) (h := ?_)
     cases tz
     ·skip
      refine Sg.off (hw := Sg.yl (d := 718) rfl rfl rfl) (hb := rfl) (h := ?_)
      refine Sg.off (hw := Sg.yl (d := 718) rfl rfl rfl) (hb := rfl) (h := ?_)
      refine Sg.off (hw := Sg.yl (d := 718) rfl rfl rfl) (hb := rfl) (h := ?_)
      refine Sg.offu (Sg.yu (d := 721) rfl rfl rfl) (Sg.ps rfl) ?_
      refine Sg.offu (Sg.yu (d := 721) rfl rfl rfl) (Sg.ps rfl) ?_
      refine Sg.off (hw := Sg.yl (d := 718) rfl rfl rfl) (hb := rfl) (h := ?_)
      refine Sg.pk (v := .bool false) (hw := Sg.wy (d := 715) rfl rfl rfl) (h := ?_)
      refine Sg.pk (v := .bool false) (hw := Sg.wy (d := 701) rfl rfl rfl) (h := ?_)
      refine Sg.pk (v := .bool false) (h := ?_)
      first | refine Sg.nl ?_ | refine Sg.nl1 ?_
      refine Sg.cf rfl rfl ?_
      first | refine Sg.sk ?_ | refine Sg.sk1 ?_
      exact hK _ _ _ (fun j hj => rfl) (Below.refl _ _)
     ·skip
      exact Bool.noConfusion ((hT rfl rfl).2 rfl).1
    ·skip
     refine Sg.mv (v := .bool z) (hw := Sg.wy (d := 703) rfl rfl rfl) (hs := Sg.rs rfl h79) (h := ?_)
     refine Sg.pk (v := .bool z) (hw := Sg.wy (d := 701) rfl rfl rfl) (h := ?_)
     refine Sg.mv (v := .bool z) (hw := Sg.wy (d := 701) rfl rfl rfl) (h := ?_)
     cases z
     ·skip
      refine Sg.off (hw := Sg.yl (d := 706) rfl rfl rfl) (hb := rfl) (h := ?_)
      refine Sg.off (hw := Sg.yl (d := 706) rfl rfl rfl) (hb := rfl) (h := ?_)
      refine Sg.off (hw := Sg.yl (d := 706) rfl rfl rfl) (hb := rfl) (h := ?_)
      refine Sg.pk (v := .bool false) (hw := Sg.wy (d := 701) rfl rfl rfl) (h := ?_)
      refine Sg.mv (v := .bool false) (hw := Sg.wy (d := 701) rfl rfl rfl) (h := ?_)
      refine Sg.off (hw := Sg.yl (d := 711) rfl rfl rfl) (hb := rfl) (h := ?_)
      refine Sg.off (hw := Sg.yl (d := 711) rfl rfl rfl) (hb := rfl) (h := ?_)
      refine Sg.pk (v := .bool false) (hw := Sg.wy (d := 701) rfl rfl rfl) (h := ?_)
      refine Sg.mv (v := .bool false) (hw := Sg.wy (d := 701) rfl rfl rfl) (h := ?_)
      refine Sg.mv (v := .int .i64 twins) (hw := Sg.wy (d := 715) rfl rfl rfl) (hs := Sg.rs rfl h83) (h := ?_)
      refine Sg.ieql (c := tz) (hw := Sg.wy (d := 715) rfl rfl rfl) (hc := htz) (h := ?_)
      refine Sg.mv (v := .bool tz) (hw := Sg.wy (d := 715) rfl rfl rfl) (h := ?_)
      cases tz
      ·skip
       refine Sg.off (hw := Sg.yl (d := 718) rfl rfl rfl) (hb := rfl) (h := ?_)
       refine Sg.off (hw := Sg.yl (d := 718) rfl rfl rfl) (hb := rfl) (h := ?_)
       refine Sg.off (hw := Sg.yl (d := 718) rfl rfl rfl) (hb := rfl) (h := ?_)
       refine Sg.offu (Sg.yu (d := 721) rfl rfl rfl) (Sg.ps rfl) ?_
       refine Sg.offu (Sg.yu (d := 721) rfl rfl rfl) (Sg.ps rfl) ?_
       refine Sg.off (hw := Sg.yl (d := 718) rfl rfl rfl) (hb := rfl) (h := ?_)
       refine Sg.pk (v := .bool false) (hw := Sg.wy (d := 715) rfl rfl rfl) (h := ?_)
       refine Sg.pk (v := .bool false) (hw := Sg.wy (d := 701) rfl rfl rfl) (h := ?_)
       refine Sg.pk (v := .bool false) (h := ?_)
       first | refine Sg.nl ?_ | refine Sg.nl1 ?_
       refine Sg.cf rfl rfl ?_
       first | refine Sg.sk ?_ | refine Sg.sk1 ?_
       exact hK _ _ _ (fun j hj => rfl) (Below.refl _ _)
      ·skip
       exact Bool.noConfusion ((hT rfl rfl).2 rfl).2
     ·skip
      refine Sg.mv (v := .slice A74 set_.length c74) (hw := Sg.wy (d := 706) rfl rfl rfl) (hs := Sg.rs rfl h74) (h := ?_)
      refine Sg.len (hu := by first | exact Tryz.underlying22 | exact Tryz.underlying26 | exact Tryz.underlying31) (hw := Sg.wy (d := 706) rfl rfl rfl) (h := ?_)
      refine Sg.ilss (c := lt4) (hw := Sg.wy (d := 706) rfl rfl rfl) (hc := hlt) (h := ?_)
      refine Sg.pk (v := .bool lt4) (hw := Sg.wy (d := 701) rfl rfl rfl) (h := ?_)
      refine Sg.mv (v := .bool lt4) (hw := Sg.wy (d := 701) rfl rfl rfl) (h := ?_)
      cases lt4
      ·skip
       refine Sg.off (hw := Sg.yl (d := 711) rfl rfl rfl) (hb := rfl) (h := ?_)
       refine Sg.off (hw := Sg.yl (d := 711) rfl rfl rfl) (hb := rfl) (h := ?_)
       refine Sg.pk (v := .bool false) (hw := Sg.wy (d := 701) rfl rfl rfl) (h := ?_)
       refine Sg.mv (v := .bool false) (hw := Sg.wy (d := 701) rfl rfl rfl) (h := ?_)
       refine Sg.mv (v := .int .i64 twins) (hw := Sg.wy (d := 715) rfl rfl rfl) (hs := Sg.rs rfl h83) (h := ?_)
       refine Sg.ieql (c := tz) (hw := Sg.wy (d := 715) rfl rfl rfl) (hc := htz) (h := ?_)
       refine Sg.mv (v := .bool tz) (hw := Sg.wy (d := 715) rfl rfl rfl) (h := ?_)
       cases tz
       ·skip
        refine Sg.off (hw := Sg.yl (d := 718) rfl rfl rfl) (hb := rfl) (h := ?_)
        refine Sg.off (hw := Sg.yl (d := 718) rfl rfl rfl) (hb := rfl) (h := ?_)
        refine Sg.off (hw := Sg.yl (d := 718) rfl rfl rfl) (hb := rfl) (h := ?_)
        refine Sg.offu (Sg.yu (d := 721) rfl rfl rfl) (Sg.ps rfl) ?_
        refine Sg.offu (Sg.yu (d := 721) rfl rfl rfl) (Sg.ps rfl) ?_
        refine Sg.off (hw := Sg.yl (d := 718) rfl rfl rfl) (hb := rfl) (h := ?_)
        refine Sg.pk (v := .bool false) (hw := Sg.wy (d := 715) rfl rfl rfl) (h := ?_)
        refine Sg.pk (v := .bool false) (hw := Sg.wy (d := 701) rfl rfl rfl) (h := ?_)
        refine Sg.pk (v := .bool false) (h := ?_)
        first | refine Sg.nl ?_ | refine Sg.nl1 ?_
        refine Sg.cf rfl rfl ?_
        first | refine Sg.sk ?_ | refine Sg.sk1 ?_
        exact hK _ _ _ (fun j hj => rfl) (Below.refl _ _)
       ·skip
        refine Sg.mv (v := .bool true) (hw := Sg.wy (d := 718) rfl rfl rfl) (hs := Sg.rs rfl h75) (h := ?_)
        refine Sg.nt (b := true) (hw := Sg.wy (d := 718) rfl rfl rfl) (h := ?_)
        refine Sg.mv (v := .bool false) (hw := Sg.wy (d := 718) rfl rfl rfl) (h := ?_)
        refine Sg.mv (v := .bool true) (hw := Sg.wy (d := 721) rfl rfl rfl) (hs := Sg.rs rfl h79) (h := ?_)
        refine Sg.nt (b := true) (hw := Sg.wy (d := 721) rfl rfl rfl) (h := ?_)
        refine Sg.pk (v := .bool false) (hw := Sg.wy (d := 718) rfl rfl rfl) (h := ?_)
        refine Sg.pk (v := .bool false) (hw := Sg.wy (d := 715) rfl rfl rfl) (h := ?_)
        refine Sg.pk (v := .bool false) (hw := Sg.wy (d := 701) rfl rfl rfl) (h := ?_)
        refine Sg.pk (v := .bool false) (h := ?_)
        first | refine Sg.nl ?_ | refine Sg.nl1 ?_
        refine Sg.cf rfl rfl ?_
        first | refine Sg.sk ?_ | refine Sg.sk1 ?_
        exact hK _ _ _ (fun j hj => rfl) (Below.refl _ _)
      ·skip
       refine Sg.mv (v := .int .i64 twins) (hw := Sg.wy (d := 711) rfl rfl rfl) (hs := Sg.rs rfl h83) (h := ?_)
       refine Sg.ineq (c := (!tz)) (hw := Sg.wy (d := 711) rfl rfl rfl) (hc := hn) (h := ?_)
       refine Sg.pk (v := .bool (!tz)) (hw := Sg.wy (d := 701) rfl rfl rfl) (h := ?_)
       refine Sg.mv (v := .bool (!tz)) (hw := Sg.wy (d := 701) rfl rfl rfl) (h := ?_)
       cases tz
       ·skip
        exact Bool.noConfusion ((hT rfl rfl).1 rfl rfl rfl)
       ·skip
        refine Sg.mv (v := .int .i64 twins) (hw := Sg.wy (d := 715) rfl rfl rfl) (hs := Sg.rs rfl h83) (h := ?_)
        refine Sg.ieql (c := true) (hw := Sg.wy (d := 715) rfl rfl rfl) (hc := htz) (h := ?_)
        refine Sg.mv (v := .bool true) (hw := Sg.wy (d := 715) rfl rfl rfl) (h := ?_)
        refine Sg.mv (v := .bool true) (hw := Sg.wy (d := 718) rfl rfl rfl) (hs := Sg.rs rfl h75) (h := ?_)
        refine Sg.nt (b := true) (hw := Sg.wy (d := 718) rfl rfl rfl) (h := ?_)
        refine Sg.mv (v := .bool false) (hw := Sg.wy (d := 718) rfl rfl rfl) (h := ?_)
        refine Sg.mv (v := .bool true) (hw := Sg.wy (d := 721) rfl rfl rfl) (hs := Sg.rs rfl h79) (h := ?_)
        refine Sg.nt (b := true) (hw := Sg.wy (d := 721) rfl rfl rfl) (h := ?_)
        refine Sg.pk (v := .bool false) (hw := Sg.wy (d := 718) rfl rfl rfl) (h := ?_)
        refine Sg.pk (v := .bool false) (hw := Sg.wy (d := 715) rfl rfl rfl) (h := ?_)
        refine Sg.pk (v := .bool false) (hw := Sg.wy (d := 701) rfl rfl rfl) (h := ?_)
        refine Sg.pk (v := .bool false) (h := ?_)
        first | refine Sg.nl ?_ | refine Sg.nl1 ?_
        refine Sg.cf rfl rfl ?_
        first | refine Sg.sk ?_ | refine Sg.sk1 ?_
        exact hK _ _ _ (fun j hj => rfl) (Below.refl _ _)
/-- What the first half's calls answer, and what the law asks of it. -/
structure g4F1 (k : Nat) (l0 : List Int) (children : Int) (product : Int) (oldest : List (List Int)) (ok : Bool) (youngest : List (List Int)) (sets : List (List Int)) (count : Int) (sums : List Int) (open_ : List Int) : Prop where
  hD : spec_DrawToldByOldest.f k l0 = some (children, product)
  hOI : ToldF true children product oldest ok
  hOS : spec_ToldByOldest.f children product = some (oldest, ok)
  hYI : ToldF false children product youngest ok
  hYS : spec_ToldByYoungest.f children product = some (youngest, ok)
  hSI : impl_SetsOfProduct.f children product = some (sets, ok)
  hSS : spec_SetsOfProduct.f children product = some (sets, ok)
  hCI : impl_CountSets.f children product = some (count, ok)
  hCS : spec_CountSets.f children product = some (count, ok)
  hUI : impl_SumsOfProduct.f k children product = some (sums, ok)
  hUS : spec_SumsOfProduct.f k children product = some (sums, ok)
  hNI : impl_OpenSums.f k children product = some (open_, ok)
  hNS : spec_OpenSums.f k children product = some (open_, ok)
  hW1 : laws_qRows.f k oldest oldest = some true
  hW2 : laws_qRows.f k youngest youngest = some true
  hW3 : laws_qRows.f k sets sets = some true
  hW4 : laws_qSame.f k sums sums = some true
  hW5 : laws_qSame.f k open_ open_ = some true
  hD_ : ok = true → ((sets.length : Nat) : Int) = count ∧ laws_qOrdered.f k sets = some true ∧ laws_qOrdered.f k oldest = some true ∧ laws_qOrdered.f k youngest = some true ∧ laws_qRises.f k sums = some true ∧ laws_qRises.f k open_ = some true ∧ sets.length ≤ 1000000 ∧ sums.length ≤ 1000000 ∧
      (∀ i : Nat, i < sets.length → ∃ (s : List Int) (v : Int), rd_L2 sets ((i : Nat) : Int) = s ∧ ((s.length : Nat) : Int) = children ∧ s.length ≤ 4 ∧ prodTo s s.length = product ∧ impl_IsSet.f k s = some true ∧ laws_qSum.f k s = some v ∧ laws_qHas.f k sums v = some true) ∧
      ∀ i : Nat, i < sums.length → ∃ (sum : Int) (both : List (List Int)) (tells op g2 g3 : Bool), rd sums ((i : Nat) : Int) = sum ∧ impl_SetsOfBoth.f children product sum = some (both, true) ∧ impl_DoesTell.f children product sum = some (tells, true) ∧ (0 < both.length ∧ both.length ≤ 1000000) ∧
        (((both.length : Nat) : Int) = 1 ↔ tells = true) ∧ laws_qHas.f k open_ sum = some op ∧ (((both.length : Nat) : Int) > 1 ↔ op = true) ∧ (((cntTo oldB both both.length : Nat) : Int) = 1 ↔ g2 = true) ∧ (((cntTo youngB both both.length : Nat) : Int) = 1 ↔ g3 = true) ∧
        ∀ j : Nat, j < both.length → ∃ s : List Int, rd_L2 both ((j : Nat) : Int) = s ∧ impl_HasOldest.f k s = some (oldB s, true) ∧ impl_HasYoungest.f k s = some (youngB s, true) ∧ laws_qHasRow.f k sets s = some true ∧ laws_qHasRow.f k oldest s = some (op && (g2 && oldB s)) ∧ laws_qHasRow.f k youngest s = some (op && (g3 && youngB s))

/-- The same of the second half. -/
structure g4F2 (k : Nat) (l1 : List Int) (c : Int) (from_ : Int) (to_ : Int) (products : List Int) (fifteen : Bool) (set_ : List Int) (x : Bool) (z : Bool) (twins : Int) (good : Bool) (n p s : Int) (both : List (List Int)) (eleven tells thirteen : Bool) : Prop where
  hD2 : spec_DrawSetsOfBoth.f k l1 = some (n, p, s)
  hBI : impl_SetsOfBoth.f n p s = some (both, eleven)
  hBS : spec_SetsOfBoth.f n p s = some (both, eleven)
  hTI : impl_DoesTell.f n p s = some (tells, thirteen)
  hTS : spec_DoesTell.f n p s = some (tells, thirteen)
  hD3 : spec_DrawOneByOldest.f l1 = some (c, from_, to_)
  hOI : impl_OneByOldest.f k c from_ to_ = some (products, fifteen)
  hOS : spec_OneByOldest.f c from_ to_ = some (products, fifteen)
  hD4 : spec_DrawHasOldest.f k l1 = some set_
  hHI : impl_HasOldest.f k set_ = some (x, good)
  hHS : spec_HasOldest.f k set_ = some (x, good)
  hYI : impl_HasYoungest.f k set_ = some (z, good)
  hYS : spec_HasYoungest.f k set_ = some (z, good)
  hWI : impl_TwinsIn.f k set_ = some (twins, good)
  hWS : spec_TwinsIn.f k set_ = some (twins, good)
  hGI : impl_IsSet.f k set_ = some good
  hGS : spec_IsSet.f k set_ = some good
  hW1 : laws_qRows.f k both both = some true
  hW2 : laws_qSame.f k products products = some true
  hE0 : eleven = false → thirteen = false
  hE1 : eleven = true → ((both.length : Int) > 0 ↔ thirteen = true)
  hG_ : fifteen = true → laws_qRises.f k products = some true ∧ products.length ≤ 1000000 ∧ ∀ i : Nat, i < products.length → ∃ (p : Int) (row : List (List Int)), rd products ((i : Nat) : Int) = p ∧ ToldF true c p row true ∧ row.length = 1 ∧ from_ ≤ p ∧ p ≤ to_
  hT_ : good = true → ((set_.length : Nat) : Int) > 1 → (x = true → z = true → ((set_.length : Nat) : Int) < 4 → twins = 0) ∧ (twins = 0 → x = true ∧ z = true)

def laws_FnChildrenTold.Pure : Prop := ∀ (l0 : List Int) (l1 : List Int), l0.length ≤ maxLen → l0.length * 1 ≤ 140737488351232 → (∀ x ∈ l0, (Lit.int .u8 x).wf = true) → l1.length ≤ maxLen → l1.length * 1 ≤ 140737488351232 → (∀ x ∈ l1, (Lit.int .u8 x).wf = true) → laws_big.f l0 l1 = some true ∨ (laws_big.f l0 l1 = some false ∧ ∃ k, (∃ children product oldest ok youngest sets count sums open_, g4F1 k l0 children product oldest ok youngest sets count sums open_) ∧ ∃ c from_ to_ products fifteen set_ x z twins good n p s both eleven tells thirteen, g4F2 k l1 c from_ to_ products fifteen set_ x z twins good n p s both eleven tells thirteen)
theorem g4body : Tryz.f3.body = some (Code.seq (g4S 0) (Code.seq (g4S 1) (Code.seq (g4S 2) (Code.seq (g4S 3) (Code.seq (g4S 4) (Code.seq (g4S 5) (Code.seq (g4S 6) (Code.seq (g4S 7) (Code.seq (g4S 8) (Code.seq (g4S 9) (Code.seq (g4S 10) (Code.seq (g4S 11) (Code.seq (g4S 12) (Code.seq (g4S 13) (Code.seq (g4S 14) (Code.seq (g4S 15) (Code.seq (g4S 16) (Code.seq (g4S 17) (Code.seq (g4S 18) (Code.seq (g4S 19) (Code.seq (g4S 20) (Code.seq (g4S 21) (Code.seq (g4S 22) (Code.seq (g4S 23) (Code.seq (g4S 24) (Code.seq (g4S 25) (Code.seq (g4S 26) (Code.seq (g4S 27) (Code.seq (g4S 28) (Code.seq (g4S 29) (Code.seq (g4S 30) (Code.seq (g4S 31) (Code.seq (g4S 32) (Code.seq (g4S 33) (Code.seq (g4S 34) (Code.seq (g4S 35) (g4S 36))))))))))))))))))))))))))))))))))))) := by kernel_rfl
theorem g4early (A0 : Option Addr) (c0 : Nat) (l0 : List Int) (A1 : Option Addr) (c1 : Nat) (l1 : List Int) (w : World) (hC0 : Kd.C (Kd.int .u8) w A0 l0.length l0) (hc0 : l0.length ≤ c0) (hC1 : Kd.C (Kd.int .u8) w A1 l1.length l1) (hc1 : l1.length ≤ c1) (τ : Sg.Fr) {Q : Exit → Act → World → Prop} (hQ : ∀ σ' τ' w', σ' 4 = .bool true → Below w.heap.size w w' → Q .ret (Sg.fr 728 (Sg.mix 91 σ' τ')) w') (hbig : laws_big.f l0 l1 = some true) : (Code.seq (g4S 0) (Code.seq (g4S 1) (Code.seq (g4S 2) (Code.seq (g4S 3) (Code.seq (g4S 4) (Code.seq (g4S 5) (Code.seq (g4S 6) (Code.seq (g4S 7) (Code.seq (g4S 8) (Code.seq (g4S 9) (Code.seq (g4S 10) (Code.seq (g4S 11) (Code.seq (g4S 12) (Code.seq (g4S 13) (Code.seq (g4S 14) (Code.seq (g4S 15) (Code.seq (g4S 16) (Code.seq (g4S 17) (Code.seq (g4S 18) (Code.seq (g4S 19) (Code.seq (g4S 20) (Code.seq (g4S 21) (Code.seq (g4S 22) (Code.seq (g4S 23) (Code.seq (g4S 24) (Code.seq (g4S 25) (Code.seq (g4S 26) (Code.seq (g4S 27) (Code.seq (g4S 28) (Code.seq (g4S 29) (Code.seq (g4S 30) (Code.seq (g4S 31) (Code.seq (g4S 32) (Code.seq (g4S 33) (Code.seq (g4S 34) (Code.seq (g4S 35) (g4S 36))))))))))))))))))))))))))))))))))))).wp Tryz.prog Q (Sg.fr 728 (Sg.mix 91 (fun i => (#[.slice A0 l0.length c0, .slice A1 l1.length c1] : Array Value).getD i undef) τ)) w := by
  refine Sg.sq ?_
  refine Sg.rg ?_
  refine Sg.asg (v := .bool false) (h := ?_)
  first | refine Sg.nl ?_ | refine Sg.nl1 ?_
  refine Sg.gn fun τ1 => ?_
  refine Sg.sq ?_
  refine Sg.sq ?_
  refine Sg.rg ?_
  refine Sg.mv (v := .slice A0 l0.length c0) (h := ?_)
  refine Sg.mv (v := .slice A1 l1.length c1) (h := ?_)
  refine Sg.cl (args := #[.slice A0 l0.length c0, .slice A1 l1.length c1]) (hf := Tryz.func4) (hargs := Sg.a2 (Sg.rs rfl rfl) (Sg.rs rfl rfl)) (h := ?_)
  refine (laws_big.calls A0 c0 l0 A1 c1 l1 true _ hC0 hc0 hC1 hc1 hbig).mono ?_
  rintro _ w1 ⟨rfl, d3⟩
  have b2 := d3.below
  refine ⟨_, _, rfl, (Sg.ps rfl), ?_⟩
  first | refine Sg.nl ?_ | refine Sg.nl1 ?_
  refine Sg.ct rfl rfl ?_
  refine Sg.sq ?_
  refine Sg.rg ?_
  refine Sg.asg (v := .bool true) (h := ?_)
  first | refine Sg.nl ?_ | refine Sg.nl1 ?_
  refine Sg.rt ?_
  exact hQ _ _ _ rfl b2
theorem g4whole (A0 : Option Addr) (c0 : Nat) (l0 : List Int) (A1 : Option Addr) (c1 : Nat) (l1 : List Int) (w : World) (hC0 : Kd.C (Kd.int .u8) w A0 l0.length l0) (hc0 : l0.length ≤ c0) (hC1 : Kd.C (Kd.int .u8) w A1 l1.length l1) (hc1 : l1.length ≤ c1) (τ : Sg.Fr) {Q : Exit → Act → World → Prop} (hQp : ∀ c (a : Act) d v w, Q (.panic c) (a.put d v) w → Q (.panic c) a w) (hQ : ∀ σ' τ' w', σ' 4 = .bool true → Below w.heap.size w w' → Q .ret (Sg.fr 728 (Sg.mix 91 σ' τ')) w') (hbig : laws_big.f l0 l1 = some false) (k : Nat) (hf1 : ∃ children product oldest ok youngest sets count sums open_, g4F1 k l0 children product oldest ok youngest sets count sums open_) (hf2 : ∃ c from_ to_ products fifteen set_ x z twins good n p s both eleven tells thirteen, g4F2 k l1 c from_ to_ products fifteen set_ x z twins good n p s both eleven tells thirteen) : (Code.seq (g4S 0) (Code.seq (g4S 1) (Code.seq (g4S 2) (Code.seq (g4S 3) (Code.seq (g4S 4) (Code.seq (g4S 5) (Code.seq (g4S 6) (Code.seq (g4S 7) (Code.seq (g4S 8) (Code.seq (g4S 9) (Code.seq (g4S 10) (Code.seq (g4S 11) (Code.seq (g4S 12) (Code.seq (g4S 13) (Code.seq (g4S 14) (Code.seq (g4S 15) (Code.seq (g4S 16) (Code.seq (g4S 17) (Code.seq (g4S 18) (Code.seq (g4S 19) (Code.seq (g4S 20) (Code.seq (g4S 21) (Code.seq (g4S 22) (Code.seq (g4S 23) (Code.seq (g4S 24) (Code.seq (g4S 25) (Code.seq (g4S 26) (Code.seq (g4S 27) (Code.seq (g4S 28) (Code.seq (g4S 29) (Code.seq (g4S 30) (Code.seq (g4S 31) (Code.seq (g4S 32) (Code.seq (g4S 33) (Code.seq (g4S 34) (Code.seq (g4S 35) (g4S 36))))))))))))))))))))))))))))))))))))).wp Tryz.prog Q (Sg.fr 728 (Sg.mix 91 (fun i => (#[.slice A0 l0.length c0, .slice A1 l1.length c1] : Array Value).getD i undef) τ)) w := by
  refine Sg.sq ?_
  refine Sg.rg ?_
  refine Sg.asg (v := .bool false) (h := ?_)
  first | refine Sg.nl ?_ | refine Sg.nl1 ?_
  refine Sg.gn fun τ1 => ?_
  refine Sg.sq ?_
  refine Sg.sq ?_
  refine Sg.rg ?_
  refine Sg.mv (v := .slice A0 l0.length c0) (h := ?_)
  refine Sg.mv (v := .slice A1 l1.length c1) (h := ?_)
  refine Sg.cl (args := #[.slice A0 l0.length c0, .slice A1 l1.length c1]) (hf := Tryz.func4) (hargs := Sg.a2 (Sg.rs rfl rfl) (Sg.rs rfl rfl)) (h := ?_)
  refine (laws_big.calls A0 c0 l0 A1 c1 l1 false _ hC0 hc0 hC1 hc1 hbig).mono ?_
  rintro _ w1 ⟨rfl, d3⟩
  have b2 := d3.below
  refine ⟨_, _, rfl, (Sg.ps rfl), ?_⟩
  first | refine Sg.nl ?_ | refine Sg.nl1 ?_
  refine Sg.cf rfl rfl ?_
  first | refine Sg.sk ?_ | refine Sg.sk1 ?_
  refine Sg.gn fun τ2 => ?_
  obtain ⟨children, product, oldest, ok, youngest, sets, count, sums, open_, f1⟩ := hf1
  obtain ⟨c, from_, to_, products, fifteen, set_, x, z, twins, good, n, p, s, both, eleven, tells, thirteen, f2⟩ := hf2
  have hb0 := b2
  have f4 := Kd.C_below hC0 b2
  refine g4pA k A0 c0 l0 children product oldest ok youngest sets count sums open_ _ _ _ rfl f4 hc0 f1.hD f1.hOI f1.hOS f1.hYI f1.hYS f1.hSI f1.hSS f1.hCI f1.hCS f1.hUI f1.hUS f1.hNI f1.hNS f1.hW1 f1.hW2 f1.hW3 f1.hW4 f1.hW5 (fun σ1 τ1 w1 hs1 e1 hb1 => ?_)
  refine g4pD k children product oldest ok youngest sets count sums open_ σ1 τ1 w1 hQp hs1 f1.hD_ (fun σ2 τ2 w2 k2 hb2 => ?_)
  have hb := below_step (below_step hb0 hb1) hb2
  refine g4pF k A1 c1 l1 c from_ to_ products fifteen set_ x z twins good n p s both eleven tells thirteen σ2 τ2 w2 ((k2 1 (by decide)).trans (e1.trans rfl)) (Kd.C_below hC1 hb) hc1 f2.hD2 f2.hBI f2.hBS f2.hTI f2.hTS f2.hD3 f2.hOI f2.hOS f2.hD4 f2.hHI f2.hHS f2.hYI f2.hYS f2.hWI f2.hWS f2.hGI f2.hGS f2.hW1 f2.hW2 f2.hE0 f2.hE1 (fun σ5 τ5 w5 hs5 hb5 => ?_)
  have hbq := below_step hb hb5
  refine g4pG k c from_ to_ products fifteen set_ x z twins good σ5 τ5 w5 hQp (fun σ' τ' w' h4 hb9 => hQ _ _ _ h4 (below_step hbq hb9)) hs5 f2.hG_ (fun σ6 τ6 w6 k6 hb6 => ?_)
  have hs6 := hs5.keep (fun i _ hi => k6 i (by omega)) hb6
  refine g4pT k c from_ to_ products fifteen set_ x z twins good σ6 τ6 w6 hQp hs6 f2.hT_ (fun σ8 τ8 w8 k8 hb8 => ?_)
  have hbz := below_step (below_step hbq hb6) hb8
  refine Sg.sq ?_
  refine Sg.rg ?_
  refine Sg.asg (v := .bool true) (h := ?_)
  first | refine Sg.nl ?_ | refine Sg.nl1 ?_
  refine Sg.rt0 ?_
  exact hQ _ _ _ rfl hbz
theorem laws_FnChildrenTold.walk (P : laws_FnChildrenTold.Pure) (a0 : Option Addr) (len0 cap0 : Nat) (z0 : List Int) (a1 : Option Addr) (len1 cap1 : Nat) (z1 : List Int) (w : World) (w0 : (a0 = none ∧ len0 = 0 ∧ cap0 = 0 ∧ z0 = []) ∨ ∃ x, a0 = some x ∧ len0 ≤ cap0 ∧ cap0 ≤ maxLen ∧ z0.length = cap0 ∧ (∀ i, i < z0.length → w.cell? (x.add i) = some (.int .u8 (z0.getD i 0))) ∧ ∀ n ∈ z0, (Lit.int .u8 n).wf = true) (y0 : len0 * 1 ≤ 140737488351232) (w1 : (a1 = none ∧ len1 = 0 ∧ cap1 = 0 ∧ z1 = []) ∨ ∃ x, a1 = some x ∧ len1 ≤ cap1 ∧ cap1 ≤ maxLen ∧ z1.length = cap1 ∧ (∀ i, i < z1.length → w.cell? (x.add i) = some (.int .u8 (z1.getD i 0))) ∧ ∀ n ∈ z1, (Lit.int .u8 n).wf = true) (y1 : len1 * 1 ≤ 140737488351232) :
    Calls Tryz.prog 3 #[.slice a0 len0 cap0, .slice a1 len1 cap1] w fun e w' => e = .returned (.bool true) ∧ Below w.heap.size w w' := by
  obtain ⟨l0, rfl, hr0, hm0, hw0, hc0⟩ := ReadsInt.ofRowC w0
  obtain ⟨l1, rfl, hr1, hm1, hw1, hc1⟩ := ReadsInt.ofRowC w1
  have hC0 : Kd.C (Kd.int .u8) w a0 l0.length l0 := Kd.C_of_reads (d := (0 : Int)) (h1 := fun _ => rfl) hr0
  have hC1 : Kd.C (Kd.int .u8) w a1 l1.length l1 := Kd.C_of_reads (d := (0 : Int)) (h1 := fun _ => rfl) hr1
  refine calls_of_wp Tryz.func3 g4body ?_
  rw [Sg.enter (n := 728) (by rw [Tryz.ntmps3]; rfl), Sg.to_mix (m := 91)]
  have hQp : ∀ c (a : Act) d v (w' : World), bodyPost Tryz.prog Tryz.f3 (fun e w' => e = .returned (.bool true) ∧ Below w.heap.size w w') (.panic c) (a.put d v) w' → bodyPost Tryz.prog Tryz.f3 (fun e w' => e = .returned (.bool true) ∧ Below w.heap.size w w') (.panic c) a w' := fun c a d v w' h => by cases d <;> exact h
  have hQ : ∀ σ' τ' (w' : World), σ' 4 = .bool true → Below w.heap.size w w' → bodyPost Tryz.prog Tryz.f3 (fun e w' => e = .returned (.bool true) ∧ Below w.heap.size w w') .ret (Sg.fr 728 (Sg.mix 91 σ' τ')) w' := fun σ' τ' w' h4 hb =>
    bodyPost_ret (v := .bool true) (by rw [results_tmp (t := 4) rfl, Sg.fr_getD (by decide)]; exact congrArg (fun v => Result.ok v w') h4) rfl ⟨rfl, hb⟩
  generalize bodyPost Tryz.prog Tryz.f3 (fun e w' => e = .returned (.bool true) ∧ Below w.heap.size w w') = Q at hQp hQ ⊢
  rcases P l0 l1 hm0 y0 hw0 hm1 y1 hw1 with hbig | ⟨hbig, k, hf1, hf2⟩
  · exact g4early a0 cap0 l0 a1 cap1 l1 w hC0 hc0 hC1 hc1 _ hQ hbig
  · exact g4whole a0 cap0 l0 a1 cap1 l1 w hC0 hc0 hC1 hc1 _ hQp hQ hbig k hf1 hf2

end Go.Proofs.YtlbnhjeblknepaaGreat.E
