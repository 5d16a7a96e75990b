-- WRITTEN by xprint.py, a program of this session that drives the kit's printer: out of the translation. Lean checks it.
import Derived.Test.YtebidfogkjidaaaE0
import Derived.Test.YtebidfogkjidaaaE3
import Derived.Test.YtebidfogkjidaaaE21
import Derived.Test.YtebidfogkjidaaaWLast
import Derived.Test.YtebidfogkjidaaaWWords
namespace Go.Proofs.Ytebidfogkjidaaa.E
open Go.RowKit Go.Proofs.YtebidfogkjidaaaW.PrintWords Go.Proofs.YtebidfogkjidaaaW.PrintLast
set_option linter.unusedVariables false
set_option linter.unusedSimpArgs false

-- OURS, BY HAND
/-! ### slices_SortFunc_int_int: function 48 -/
-- func slices.SortFunc[[][]int,[]int]
-- ext raw=1
-- needs slices.Compare[[]int,int]
-- needs impl.withSum
-- needs impl.sets
-- import Derived.WalkKit
-- import Derived.Deep.RegionWith
-- import Derived.Deep.RegionLaw
-- import Derived.IntWalk
-- import Derived.WalkSpells
-- import Derived.Lib.SliceRun
-- import Derived.Shelf.SlSortCmp.Whole1
-- import Derived.Sort.OwnSortedInts
-- seat Ytebidfogkjidaaa
/-- Numbers by numbers, a longer list behind its beginning. -/
def cmpL : List Int → List Int → Int
  | [], [] => 0
  | [], _ :: _ => -1
  | _ :: _, [] => 1
  | a :: x, b :: y => if a < b then -1 else if b < a then 1 else cmpL x y
theorem cmpL_self : ∀ x : List Int, cmpL x x = 0
  | [] => rfl
  | a :: x => by
    unfold cmpL
    rw [if_neg (Int.lt_irrefl _), if_neg (Int.lt_irrefl _)]
    exact cmpL_self x
theorem cmpL_trans : ∀ x y z : List Int, cmpL x y < 0 → cmpL y z < 0 → cmpL x z < 0
  | [], [], _, h, _ => by simp [cmpL] at h
  | [], _ :: _, [], _, h => by simp [cmpL] at h
  | [], _ :: _, _ :: _, _, _ => by simp [cmpL]
  | _ :: _, [], _, h, _ => by simp [cmpL] at h
  | _ :: _, _ :: _, [], _, h => by simp [cmpL] at h
  | a :: x, b :: y, c :: z, h1, h2 => by
    unfold cmpL at *
    by_cases ab : a < b
    · by_cases bc : b < c
      · rw [if_pos (by omega)]; omega
      · rw [if_neg bc] at h2
        by_cases cb : c < b
        · rw [if_pos cb] at h2; omega
        · rw [if_pos (by omega)]; omega
    · rw [if_neg ab] at h1
      by_cases ba : b < a
      · rw [if_pos ba] at h1; omega
      · rw [if_neg ba] at h1
        obtain rfl : a = b := by omega
        by_cases bc : a < c
        · rw [if_pos bc]; omega
        · rw [if_neg bc] at h2 ⊢
          by_cases cb : c < a
          · rw [if_pos cb] at h2; omega
          · rw [if_neg cb] at h2 ⊢
            exact cmpL_trans x y z h1 h2
theorem cmpL_ntrans : ∀ x y z : List Int, ¬ cmpL x y < 0 → ¬ cmpL y z < 0 → ¬ cmpL x z < 0
  | [], [], [], _, _ => by simp [cmpL]
  | [], [], _ :: _, _, h => by simp [cmpL] at h
  | [], _ :: _, _, h, _ => by simp [cmpL] at h
  | _ :: _, [], [], _, _ => by simp [cmpL]
  | _ :: _, [], _ :: _, _, h => by simp [cmpL] at h
  | _ :: _, _ :: _, [], _, _ => by simp [cmpL]
  | a :: x, b :: y, c :: z, h1, h2 => by
    unfold cmpL at *
    by_cases ab : a < b
    · rw [if_pos ab] at h1; omega
    · rw [if_neg ab] at h1
      by_cases bc : b < c
      · rw [if_pos bc] at h2; omega
      · rw [if_neg bc] at h2
        by_cases ba : b < a
        · rw [if_neg (by omega), if_pos (by omega)]; omega
        · rw [if_neg ba] at h1
          obtain rfl : a = b := by omega
          by_cases cb : c < a
          · rw [if_neg bc, if_pos cb]; omega
          · rw [if_neg cb] at h2
            rw [if_neg bc, if_neg cb]
            exact cmpL_ntrans x y z h1 h2
theorem cmpI_val (a b : Int) : cmp_Compare_int.f a b = some (if a < b then -1 else if b < a then 1 else 0) := by
  unfold cmp_Compare_int.f cmp_isNaN_int.f
  simp
  by_cases h : a < b
  · simp [h]
  · by_cases h2 : b < a <;> simp [h, h2]
theorem compareOn (x y : List Int) (hx : x.length ≤ 100) : ∀ (d i : Nat), x.length - i = d → i ≤ x.length → i ≤ y.length → slices_Compare_int_int.l0 (d + 1) x y x (x.length : Int) (i : Int) = some (cmpL (x.drop i) (y.drop i)) := by
  intro d
  induction d with
  | zero =>
    intro i hd hi hy
    obtain rfl : i = x.length := by omega
    rw [slices_Compare_int_int.l0, if_neg (by omega), List.drop_length]
    by_cases h : x.length < y.length
    · rw [if_pos (by omega), List.drop_eq_getElem_cons h]
      rfl
    · rw [if_neg (by omega), List.drop_of_length_le (by omega)]
      rfl
  | succ d ih =>
    intro i hd hi hy
    have hlt : i < x.length := by omega
    have hrx : rd x (i : Int) = x[i] := by simp [rd, List.getD, List.getElem?_eq_getElem hlt]
    rw [slices_Compare_int_int.l0, if_pos (by omega), if_pos (by omega), if_pos (by omega), List.drop_eq_getElem_cons hlt]
    by_cases h : i < y.length
    · have hry : rd y (i : Int) = y[i] := by simp [rd, List.getD, List.getElem?_eq_getElem h]
      rw [if_neg (by omega), if_pos (by omega), hrx, hry, cmpI_val, Option.bind_some, List.drop_eq_getElem_cons h]
      have hw : wrap64 ((i : Int) + 1) = ((i + 1 : Nat) : Int) := by rw [wrap_small _ (by omega) (by omega)]; rfl
      unfold cmpL
      by_cases h1 : x[i] < y[i]
      · rw [if_pos h1, if_neg (by omega), if_pos h1]
      · rw [if_neg h1, if_neg h1]
        by_cases h2 : y[i] < x[i]
        · rw [if_pos h2, if_neg (by omega), if_pos h2]
        · rw [if_neg h2, if_pos rfl, if_neg h2, hw]
          exact ih (i + 1) (by omega) (by omega) (by omega)
    · rw [if_pos (by omega), show y.drop i = [] from List.drop_of_length_le (by omega)]
      rfl
theorem compare_val (x y : List Int) (hx : x.length ≤ 100) : slices_Compare_int_int.f (x.length + 1) x y = some (cmpL x y) := by
  unfold slices_Compare_int_int.f
  exact compareOn x y hx x.length 0 (by omega) (Nat.zero_le _) (Nat.zero_le _)
def sortF_ren : Go.Shelf.Ren := ⟨fun | 6 => 48 | 15 => 63 | 14 => 62 | 28 => 76 | 29 => 77 | 20 => 68 | 21 => 69 | 22 => 70 | 23 => 71 | 24 => 72 | 25 => 73 | 26 => 74 | 27 => 75 | 46 => 80 | 47 => 81 | 48 => 82 | 49 => 83 | 50 => 84 | 57 => 94 | n => n, fun | 22 => 25 | 24 => 31 | 25 => 53 | 3 => 3 | 39 => 60 | 0 => 0 | 53 => 72 | 55 => 74 | 4 => 4 | 46 => 65 | 45 => 64 | 50 => 69 | 5 => 5 | 9 => 9 | 66 => 76 | 70 => 80 | 76 => 87 | 77 => 88 | n => n, fun | n => n⟩
theorem sortF : Go.Proofs.SlLaysF.n6 Try.prog sortF_ren := {
  mixed := by kernel_rfl
  f6 := ⟨Try.f48.name, by decide, Try.func48.trans (congrArg some (by kernel_rfl))⟩
  f14 := ⟨Try.f62.name, by decide, Try.func62.trans (congrArg some (by kernel_rfl))⟩
  f15 := Try.func63.trans (congrArg some (by kernel_rfl))
  f20 := ⟨Try.f68.name, by decide, Try.func68.trans (congrArg some (by kernel_rfl))⟩
  f21 := ⟨Try.f69.name, by decide, Try.func69.trans (congrArg some (by kernel_rfl))⟩
  f22 := ⟨Try.f70.name, by decide, Try.func70.trans (congrArg some (by kernel_rfl))⟩
  f23 := ⟨Try.f71.name, by decide, Try.func71.trans (congrArg some (by kernel_rfl))⟩
  f24 := ⟨Try.f72.name, by decide, Try.func72.trans (congrArg some (by kernel_rfl))⟩
  f25 := ⟨Try.f73.name, by decide, Try.func73.trans (congrArg some (by kernel_rfl))⟩
  f26 := ⟨Try.f74.name, by decide, Try.func74.trans (congrArg some (by kernel_rfl))⟩
  f27 := ⟨Try.f75.name, by decide, Try.func75.trans (congrArg some (by kernel_rfl))⟩
  f28 := Try.func76.trans (congrArg some (by kernel_rfl))
  f29 := Try.func77.trans (congrArg some (by kernel_rfl))
  f46 := ⟨Try.f80.name, by decide, Try.func80.trans (congrArg some (by kernel_rfl))⟩
  f47 := Try.func81.trans (congrArg some (by kernel_rfl))
  f48 := Try.func82.trans (congrArg some (by kernel_rfl))
  f49 := ⟨Try.f83.name, by decide, Try.func83.trans (congrArg some (by kernel_rfl))⟩
  f50 := ⟨Try.f84.name, by decide, Try.func84.trans (congrArg some (by kernel_rfl))⟩
  f57 := ⟨Try.f94.name, by decide, Try.func94.trans (congrArg some (by kernel_rfl))⟩
  t0 := Try.underlying0
  a0 := Try.isAgg0
  z0 := Try.sizeOf0
  v0 := Try.zeroValue0
  t3 := Try.underlying3
  a3 := Try.isAgg3
  z3 := Try.sizeOf3
  v3 := Try.zeroValue3
  t4 := Try.underlying4
  a4 := Try.isAgg4
  z4 := Try.sizeOf4
  v4 := Try.zeroValue4
  t5 := Try.underlying5
  a5 := Try.isAgg5
  z5 := Try.sizeOf5
  v5 := Try.zeroValue5
  t9 := Try.underlying9
  a9 := Try.isAgg9
  z9 := Try.sizeOf9
  v9 := Try.zeroValue9
  t22 := Try.underlying25
  a22 := Try.isAgg25
  z22 := Try.sizeOf25
  v22 := Try.zeroValue25
  a24 := Try.isAgg31
  z24 := Try.sizeOf31
  t25 := Try.underlying53
  a25 := Try.isAgg53
  z25 := Try.sizeOf53
  v25 := Try.zeroValue53
  t39 := Try.underlying60
  a39 := Try.isAgg60
  z39 := Try.sizeOf60
  v39 := Try.zeroValue60
  t45 := Try.underlying64
  a45 := Try.isAgg64
  z45 := Try.sizeOf64
  v45 := Try.zeroValue64
  t46 := Try.underlying65
  a46 := Try.isAgg65
  z46 := Try.sizeOf65
  v46 := Try.zeroValue65
  t50 := Try.underlying69
  a50 := Try.isAgg69
  z50 := Try.sizeOf69
  v50 := Try.zeroValue69
  t53 := Try.underlying72
  a53 := Try.isAgg72
  z53 := Try.sizeOf72
  v53 := Try.zeroValue72
  t55 := Try.underlying74
  a55 := Try.isAgg74
  z55 := Try.sizeOf74
  v55 := Try.zeroValue74
  t66 := Try.underlying76
  a66 := Try.isAgg76
  z66 := Try.sizeOf76
  v66 := Try.zeroValue76
  t70 := Try.underlying80
  a70 := Try.isAgg80
  z70 := Try.sizeOf80
  v70 := Try.zeroValue80
  t76 := Try.underlying87
  a76 := Try.isAgg87
  z76 := Try.sizeOf87
  v76 := Try.zeroValue87
  t77 := Try.underlying88
  a77 := Try.isAgg88
  z77 := Try.sizeOf88
  v77 := Try.zeroValue88 }
open Go.Sort Go.Proofs Go.ChangeShapes Go.WideShapes in
theorem holds_enc {α : Type} [Inhabited α] {enc : α → Value} {w : World} {g : Nat} {cur : Array Value} {e : TypeId} {ss : List α} (hb : w.heap[g]? = some (.cells cur e (0, 0))) (ht : cur.toList.take ss.length = ss.map enc) : Go.Sort.Holds enc w g 0 ss.toArray := by
  intro j hj
  have hj' : j < ss.length := by simpa using hj
  refine ⟨?_, by simp [World.frozen?, hb]⟩
  have h1 : (cur.toList.take ss.length)[j]? = (ss.map enc)[j]? := by rw [ht]
  rw [List.getElem?_take_of_lt hj'] at h1
  simp only [World.cell?, hb, Nat.zero_add]
  simp only [Option.isSome_none, Bool.false_eq_true, if_false]
  rw [← Array.getElem?_toList, h1]
  simp [hj']
open Go.Sort Go.Proofs Go.ChangeShapes Go.WideShapes in
theorem heap_enc {α : Type} [Inhabited α] {enc : α → Value} {w : World} {g n : Nat} {os : Array Obj} {cur : Array Value} {e : TypeId} {fr : Nat × Nat} (d : Array α) (hb : w.heap[g]? = some (.cells cur e fr)) :
    (sortWorld enc w g 0 n d os).heap[g]? = some (.cells (putCells enc 0 d cur) e fr) := by
  have hg : g < w.heap.size := (Array.getElem?_eq_some_iff.1 hb).1
  unfold sortWorld
  rw [heap_grow_old _ _ (by simpa using hg)]
  simp [putRow, mapBlock, Sort.ahead, Array.getElem?_modify, hb, onCells]
open Go.Sort Go.Proofs Go.ChangeShapes Go.WideShapes in
theorem grown_enc {α : Type} [Inhabited α] {enc : α → Value} {w : World} {g n : Nat} {os : Array Obj} (d : Array α) : w.grownBy (sortWorld enc w g 0 n d os) (some g) := by
  unfold sortWorld
  refine ⟨rfl, rfl, rfl, by simp, fun k hk hne => ?_⟩
  rw [heap_grow_old _ _ (by simpa using hk)]
  have : g ≠ k := fun e => hne (by rw [e])
  simp [putRow, mapBlock, Sort.ahead, Array.getElem?_modify, this]
open Go.Sort Go.Proofs Go.ChangeShapes Go.WideShapes in
theorem take_enc {α : Type} [Inhabited α] {enc : α → Value} (cur : Array Value) (ts : List α) (h : ts.length ≤ cur.size) : (putCells enc 0 ts.toArray cur).toList.take ts.length = ts.map enc := by
  apply List.ext_getElem?
  intro j
  by_cases hj : j < ts.length
  · rw [List.getElem?_take_of_lt hj, Array.getElem?_toList]
    simp [putCells, hj, show j < cur.size by omega]
  · rw [List.getElem?_take_eq_none (by omega), List.getElem?_eq_none (by simp; omega)]
open Go.Sort Go.Proofs Go.ChangeShapes Go.WideShapes in
theorem size_enc {α : Type} [Inhabited α] {enc : α → Value} (cur : Array Value) (d : Array α) : (putCells enc 0 d cur).size = cur.size := by simp [putCells]
def encQ (us : List Value) (q : Nat) : Value := us.getD q (.slice none 0 0)
def cfQ (xs : List (List Int)) (a b : Nat) : Int := cmpL (xs.getD a []) (xs.getD b [])
open Go.Sort Go.Proofs in
theorem swoQ (xs : List (List Int)) : Go.Sort.SWO (ltOf (cfQ xs)) where
  irrefl x := by unfold ltOf cfQ; rw [cmpL_self]; rfl
  trans x y z h1 h2 := by
    unfold ltOf cfQ at *
    exact decide_eq_true (cmpL_trans _ _ _ (of_decide_eq_true h1) (of_decide_eq_true h2))
  ntrans x y z h1 h2 := by
    unfold ltOf cfQ at *
    exact decide_eq_false (cmpL_ntrans _ _ _ (of_decide_eq_false h1) (of_decide_eq_false h2))

end Go.Proofs.Ytebidfogkjidaaa.E
