-- WRITTEN by xprint.py, a program of this session that drives the kit's printer: out of the translation. Lean checks it.
import Derived.Test.YtfkdkikodoingaaE0
import Derived.Test.YtfkdkikodoingaaE4
import Derived.Test.YtfkdkikodoingaaWMore
namespace Go.Proofs.Ytfkdkikodoingaa.E
open Go.RowKit Go.Proofs.YtfkdkikodoingaaW.PrintWords Go.Proofs.YtfkdkikodoingaaW.PrintLast Go.Proofs.YtfkdkikodoingaaW.PrintMore
attribute [local go_sem] max2_int min2_int max_two min_two max_three min_three max_four min_four   -- for this text's walks alone
set_option linter.unusedVariables false
set_option linter.unusedSimpArgs false

-- OURS, BY HAND
/-! ### impl_OlderOf: function 7 -/
-- func impl.OlderOf
-- ext rounds=0 making=1
-- needs impl.AreBirthDates
-- needs slices.SortStableFunc[[]int,int]
-- import Derived.WalkKit
-- import Derived.Deep.RegionWith
-- import Derived.Deep.RegionLaw
-- import Derived.IntWalk
-- import Derived.WalkSpells
-- seat Ytfkdkikodoingaa
/-- An element laid into a list ahead of the first one that is greater. -/
def insV {α : Type} (lt : α → α → Bool) (x : α) : List α → List α
  | [] => [x]
  | y :: r => if lt x y = true then x :: y :: r else y :: insV lt x r
/-- A list in order, equal ones as they came. -/
def isortV {α : Type} (lt : α → α → Bool) (l : List α) : List α := l.foldl (fun acc x => insV lt x acc) []
theorem insV_split {α : Type} (lt : α → α → Bool) (x : α) : ∀ (q r : List α), (∀ y ∈ q, lt x y = false) → (∀ y ∈ r, lt x y = true) → insV lt x (q ++ r) = q ++ x :: r
  | [], [], _, _ => rfl
  | [], y :: r, _, h => by
    show (if lt x y = true then x :: y :: r else y :: insV lt x r) = x :: y :: r
    rw [if_pos (h y (List.mem_cons_self ..))]
  | z :: q, r, h, h2 => by
    show (if lt x z = true then x :: z :: (q ++ r) else z :: insV lt x (q ++ r)) = z :: (q ++ x :: r)
    rw [if_neg (by rw [h z (List.mem_cons_self ..)]; simp), insV_split lt x q r (fun y hy => h y (List.mem_cons_of_mem _ hy)) h2]
theorem insV_len {α : Type} (lt : α → α → Bool) (x : α) : ∀ p : List α, (insV lt x p).length = p.length + 1
  | [] => rfl
  | y :: r => by
    show (if lt x y = true then x :: y :: r else y :: insV lt x r).length = _
    split
    · rfl
    · rw [List.length_cons, insV_len lt x r, List.length_cons]
theorem insV_mem {α : Type} (lt : α → α → Bool) (x z : α) : ∀ p : List α, z ∈ insV lt x p ↔ z = x ∨ z ∈ p
  | [] => by simp [insV]
  | y :: r => by
    have ih := insV_mem lt x z r
    show z ∈ (if lt x y = true then x :: y :: r else y :: insV lt x r) ↔ _
    split
    · simp
    · rw [List.mem_cons, ih, List.mem_cons]
      constructor
      · rintro (h | h | h)
        · exact .inr (.inl h)
        · exact .inl h
        · exact .inr (.inr h)
      · rintro (h | h | h)
        · exact .inr (.inl h)
        · exact .inl h
        · exact .inr (.inr h)
theorem isortV_snoc {α : Type} (lt : α → α → Bool) (l : List α) (x : α) : isortV lt (l ++ [x]) = insV lt x (isortV lt l) := by
  unfold isortV
  rw [List.foldl_append]
  rfl
theorem snoc_ind {α : Type} {p : List α → Prop} (h0 : p []) (h1 : ∀ l x, p l → p (l ++ [x])) (l : List α) : p l := by
  have key : ∀ r : List α, p r.reverse := by
    intro r
    induction r with
    | nil => exact h0
    | cons x r ih => rw [List.reverse_cons]; exact h1 _ _ ih
  have := key l.reverse
  rwa [List.reverse_reverse] at this
theorem isortV_len {α : Type} (lt : α → α → Bool) (l : List α) : (isortV lt l).length = l.length := by
  refine snoc_ind (p := fun l => (isortV lt l).length = l.length) rfl (fun l x ih => ?_) l
  rw [isortV_snoc, insV_len, ih, List.length_append]; rfl
theorem isortV_mem {α : Type} (lt : α → α → Bool) (l : List α) (z : α) : z ∈ isortV lt l ↔ z ∈ l := by
  refine snoc_ind (p := fun l => z ∈ isortV lt l ↔ z ∈ l) Iff.rfl (fun l x ih => ?_) l
  rw [isortV_snoc, insV_mem, ih, List.mem_append, List.mem_singleton]; exact Or.comm
/-- What is asked of 'less than' on the elements of a list. -/
def LtOk {α : Type} (lt : α → α → Bool) (S : α → Prop) : Prop :=
  (∀ a b x, S a → S b → S x → lt b a = false → lt x b = false → lt x a = false) ∧ (∀ a b, S a → S b → lt a b = true → lt b a = false)
def SrtV {α : Type} (lt : α → α → Bool) (l : List α) : Prop := l.Pairwise fun a b => lt b a = false
theorem insV_srt {α : Type} (lt : α → α → Bool) (S : α → Prop) (H : LtOk lt S) (x : α) (hx : S x) : ∀ p : List α, (∀ y ∈ p, S y) → SrtV lt p → SrtV lt (insV lt x p)
  | [], _, _ => List.pairwise_singleton _ _
  | y :: r, hS, hs => by
    have hy := hS y (List.mem_cons_self ..)
    have hs1 := List.pairwise_cons.1 hs
    show SrtV lt (if lt x y = true then x :: y :: r else y :: insV lt x r)
    by_cases h : lt x y = true
    · rw [if_pos h]
      refine List.pairwise_cons.2 ⟨fun z hz => ?_, hs⟩
      have hyx := H.2 x y hx hy h
      rcases List.mem_cons.1 hz with rfl | hz
      · exact hyx
      · exact H.1 x y z hx hy (hS z (List.mem_cons_of_mem _ hz)) hyx (hs1.1 z hz)
    · rw [if_neg h]
      refine List.pairwise_cons.2 ⟨fun z hz => ?_, insV_srt lt S H x hx r (fun z hz => hS z (List.mem_cons_of_mem _ hz)) hs1.2⟩
      rcases (insV_mem lt x z r).1 hz with rfl | hz
      · exact Bool.eq_false_iff.2 h
      · exact hs1.1 z hz
theorem isortV_srt {α : Type} (lt : α → α → Bool) (S : α → Prop) (H : LtOk lt S) (l : List α) : (∀ y ∈ l, S y) → SrtV lt (isortV lt l) := by
  refine snoc_ind (p := fun l => (∀ y ∈ l, S y) → SrtV lt (isortV lt l)) (fun _ => List.Pairwise.nil) (fun l x ih hl => ?_) l
  rw [isortV_snoc]
  exact insV_srt lt S H x (hl x (by simp)) _ (fun y hy => hl y (by rw [isortV_mem] at hy; simp [hy])) (ih fun y hy => hl y (by simp [hy]))
/-- The last of the lower part is not greater: so none of them is. -/
theorem srt_low {α : Type} (lt : α → α → Bool) (S : α → Prop) (H : LtOk lt S) (p : List α) (x : α) (hS : ∀ y ∈ p, S y) (hx : S x) (hs : SrtV lt p) (j : Nat) (hj : j < p.length) (h : lt x p[j] = false) : ∀ y ∈ p.take (j + 1), lt x y = false := by
  intro y hy
  obtain ⟨i, hi, e⟩ := List.mem_iff_getElem.1 hy
  rw [List.length_take] at hi
  rw [List.getElem_take] at e
  by_cases hij : i = j
  · subst hij; rw [← e]; exact h
  · have := List.pairwise_iff_getElem.1 hs i j (by omega) hj (by omega)
    rw [← e]
    exact H.1 _ _ _ (hS _ (List.getElem_mem _)) (hS _ (List.getElem_mem _)) hx this h
/-- The row while an element goes down: it lies at place j. -/
def midRow {α : Type} (p : List α) (x : α) (rest : List α) (j : Nat) : List α := p.take j ++ x :: (p.drop j ++ rest)
theorem midRow_len {α : Type} (p : List α) (x : α) (rest : List α) (j : Nat) (hj : j ≤ p.length) : (midRow p x rest j).length = p.length + 1 + rest.length := by
  unfold midRow
  simp only [List.length_append, List.length_take, List.length_cons, List.length_drop]
  omega
theorem midRow_at {α : Type} (p : List α) (x : α) (rest : List α) (j : Nat) (hj : j ≤ p.length) : (midRow p x rest j)[j]? = some x := by
  unfold midRow
  rw [List.getElem?_append_right (by rw [List.length_take]; omega), List.length_take, Nat.min_eq_left hj, Nat.sub_self]
  rfl
theorem midRow_pre {α : Type} (p : List α) (x : α) (rest : List α) (j : Nat) (hj : j < p.length) : (midRow p x rest (j + 1))[j]? = some p[j] := by
  unfold midRow
  rw [List.getElem?_append_left (by rw [List.length_take]; omega), List.getElem?_take, if_pos (by omega), List.getElem?_eq_getElem hj]
theorem midRow_swap {α : Type} (p : List α) (x : α) (rest : List α) (j : Nat) (hj : j < p.length) : ((midRow p x rest (j + 1)).set (j + 1) p[j]).set j x = midRow p x rest j := by
  unfold midRow
  rw [List.take_succ_eq_append_getElem hj, List.set_append_right _ _ (by rw [List.length_append, List.length_take]; simp; omega)]
  rw [List.length_append, List.length_take, Nat.min_eq_left (by omega : j ≤ p.length), List.length_singleton, Nat.sub_self, List.set_cons_zero, List.append_assoc, List.set_append_right _ _ (by rw [List.length_take]; omega), List.length_take, Nat.min_eq_left (by omega : j ≤ p.length), Nat.sub_self, List.singleton_append, List.set_cons_zero]
  rw [List.drop_eq_getElem_cons hj]
  rfl
/-- A row of values of one cell each, of the call's own. -/
def ValRow (T : TypeId) (W : World) (g cap : Nat) (l : List Value) : Prop := ∃ cur : Array Value, W.heap[g]? = some (.cells cur T (0, 0)) ∧ cur.size = cap ∧ cap ≤ maxLen ∧ l.length ≤ cap ∧ cur.toList.take l.length = l
theorem ValRow.of_block {T : TypeId} {W W' : World} {g cap : Nat} {l : List Value} (h : ValRow T W g cap l) (e : W'.heap[g]? = W.heap[g]?) : ValRow T W' g cap l := by
  obtain ⟨cur, h1, h2⟩ := h
  exact ⟨cur, e.trans h1, h2⟩
theorem ValRow.lt {T : TypeId} {W : World} {g cap : Nat} {l : List Value} (h : ValRow T W g cap l) : g < W.heap.size := by
  obtain ⟨cur, h1, h2⟩ := h
  exact blk_lt h1
theorem ValRow.at {T : TypeId} {W : World} {g cap : Nat} {l : List Value} (h : ValRow T W g cap l) (i : Nat) (v : Value) (hi : l[i]? = some v) : ∃ cur : Array Value, W.heap[g]? = some (.cells cur T (0, 0)) ∧ cur[i]? = some v := by
  obtain ⟨cur, h1, h2, h3, h4, h5⟩ := h
  refine ⟨cur, h1, ?_⟩
  have hlt : i < l.length := (List.getElem?_eq_some_iff.1 hi).1
  have := congrArg (fun l => l[i]?) h5
  simp only [List.getElem?_take, if_pos hlt, Array.getElem?_toList, hi] at this
  exact this
theorem ValRow.set {T : TypeId} {W : World} {g cap : Nat} {l : List Value} (h : ValRow T W g cap l) (i : Nat) (x : Value) : ValRow T (W.setCell ⟨g, i, none⟩ x) g cap (l.set i x) := by
  obtain ⟨cur, h1, h2, h3, h4, h5⟩ := h
  refine ⟨_, blk_set h1 i _, by rw [Array.size_setIfInBounds]; exact h2, h3, by rw [List.length_set]; exact h4, ?_⟩
  rw [Array.toList_setIfInBounds, List.length_set, List.take_set, h5]
def dkey (x : S36) : Int := x.f0 * 365 + x.f1 - 1
theorem ix_calls (x : S36) (h0 : 0 ≤ x.f0) (h1 : x.f0 ≤ 3000) (h2 : 1 ≤ x.f1) (h3 : x.f1 ≤ 365) (W : World) : Calls Try.prog 20 #[.agg #[.int .i64 x.f0, .int .i64 x.f1]] W fun e w' => e = .returned (.int .i64 (dkey x)) ∧ Below W.heap.size W w' := by
  have hu36 := Try.underlying36
  obtain ⟨a, ha⟩ : ∃ a, a = x.f0 := ⟨_, rfl⟩
  obtain ⟨b, hb⟩ : ∃ b, b = x.f1 := ⟨_, rfl⟩
  have hd : dkey x = a * 365 + b - 1 := by unfold dkey; rw [ha, hb]
  rw [hd]
  rw [← ha] at h0 h1 ⊢
  rw [← hb] at h2 h3 ⊢
  clear ha hb hd
  go_enter Try.func20, Try.ntmps20
  go_wp2
  go_ret
  exact ⟨by first | rfl | go_num, (Below.refl _ _).alloc (Nat.le_refl _) _⟩
def DOk (x : S36) : Prop := 0 ≤ x.f0 ∧ x.f0 ≤ 3000 ∧ 1 ≤ x.f1 ∧ x.f1 ≤ 365
theorem dkey_small {x : S36} (h : DOk x) : 0 ≤ dkey x ∧ dkey x ≤ 1100000 := by
  obtain ⟨h0, h1, h2, h3⟩ := h
  unfold dkey
  omega
theorem rdT_nat (l : List S36) (i : Nat) (h : i < l.length) : rd_T36 l (i : Int) = l[i] := by
  simp [rd_T36, List.getD, List.getElem?_eq_getElem h]
set_option maxHeartbeats 8000000 in
theorem cl_calls (p : Nat) (A : Option Addr) (c : Nat) (l : List S36) (W : World) (hp : W.heap[p]? = some (.cells #[.slice A l.length c] 27 (0, 0))) (hC : Kd.C k36 W A l.length l) (hok : ∀ x ∈ l, DOk x) (i j : Nat) (hi : i < l.length) (hj : j < l.length) :
    Calls Try.prog 19 #[.int .i64 (i : Int), .int .i64 (j : Int), .pointer (some ⟨p, 0, none⟩)] W fun e w' => e = .returned (.int .i64 (dkey l[i] - dkey l[j])) ∧ Below W.heap.size W w' := by
  have hu36 := Try.underlying36
  obtain ⟨ad, rfl, ci0, ci1⟩ := at_T36 hC (i : Int) (Int.natCast_nonneg _) (Int.ofNat_lt.2 hi)
  obtain ⟨ad', e', cj0, cj1⟩ := at_T36 hC (j : Int) (Int.natCast_nonneg _) (Int.ofNat_lt.2 hj)
  obtain rfl := Option.some.inj e'
  rw [rdT_nat l i hi] at ci0 ci1
  rw [rdT_nat l j hj] at cj0 cj1
  rw [Int.toNat_natCast] at ci0 ci1 cj0 cj1
  have hxo := hok l[i] (List.getElem_mem hi)
  have hyo := hok l[j] (List.getElem_mem hj)
  have HX := Aside0.mk (ix_calls l[i] hxo.1 hxo.2.1 hxo.2.2.1 hxo.2.2.2)
  have HY := Aside0.mk (ix_calls l[j] hyo.1 hyo.2.1 hyo.2.2.1 hyo.2.2.2)
  have hx := dkey_small hxo
  have hy := dkey_small hyo
  obtain ⟨x, hxe⟩ : ∃ x, x = l[i] := ⟨_, rfl⟩
  obtain ⟨y, hye⟩ : ∃ y, y = l[j] := ⟨_, rfl⟩
  rw [← hxe] at HX hx ci0 ci1 ⊢
  rw [← hye] at HY hy cj0 cj1 ⊢
  have cp : W.cell? ⟨p, 0, none⟩ = some (.slice (some ad) l.length c) := (blk_cell hp 0).trans rfl
  obtain ⟨kx, hkx⟩ : ∃ kx, kx = dkey x := ⟨_, rfl⟩
  obtain ⟨ky, hky⟩ : ∃ ky, ky = dkey y := ⟨_, rfl⟩
  rw [← hkx] at HX hx ⊢
  rw [← hky] at HY hy ⊢
  have hi' : (i : Int) < (l.length : Int) := Int.ofNat_lt.2 hi
  have hj' : (j : Int) < (l.length : Int) := Int.ofNat_lt.2 hj
  have HWR := Aside0.mk (show IntKind.i64.wrap (kx - ky) = kx - ky by rw [IntKind.wrap_i64]; omega)
  clear hxe hye hkx hky hxo hyo hok hC hp hi hj
  go_enter Try.func19, Try.ntmps19
  go_wp2
  go_region_law (first | (refine goes_ Try.func20 (by kernel_rfl) rfl #[.agg #[.int .i64 x.f0, .int .i64 x.f1]] (by rfl) rfl rfl (by simp only [List.map_toArray, List.map_cons, List.map_nil]; rfl) ?_; (with_reducible refine (HX.out _).mono ?_); rintro e w2 ⟨rfl, hb⟩; refine ⟨_, rfl, ?_⟩; (first | (have gp := (hb.cell (World.block_lt_of_cell? _ _ cp)).trans cp; have gi0 := (hb.cell (World.block_lt_of_cell? _ _ ci0)).trans ci0; have gi1 := (hb.cell (World.block_lt_of_cell? _ _ ci1)).trans ci1; have gj0 := (hb.cell (World.block_lt_of_cell? _ _ cj0)).trans cj0; have gj1 := (hb.cell (World.block_lt_of_cell? _ _ cj1)).trans cj1; have HB1 := Aside0.mk (show Below W.heap.size W w2 from below_step (by repeat (first | exact Below.refl _ _ | apply below_drew)) hb); clear hb) | (have HB2 := Aside0.mk (show Below W.heap.size W w2 from below_step (by repeat (first | exact HB1.out | apply below_drew)) hb); clear hb))) | (refine goes_ Try.func20 (by kernel_rfl) rfl #[.agg #[.int .i64 y.f0, .int .i64 y.f1]] (by rfl) rfl rfl (by simp only [List.map_toArray, List.map_cons, List.map_nil]; rfl) ?_; (with_reducible refine (HY.out _).mono ?_); rintro e w2 ⟨rfl, hb⟩; refine ⟨_, rfl, ?_⟩; (first | (have gp := (hb.cell (World.block_lt_of_cell? _ _ cp)).trans cp; have gi0 := (hb.cell (World.block_lt_of_cell? _ _ ci0)).trans ci0; have gi1 := (hb.cell (World.block_lt_of_cell? _ _ ci1)).trans ci1; have gj0 := (hb.cell (World.block_lt_of_cell? _ _ cj0)).trans cj0; have gj1 := (hb.cell (World.block_lt_of_cell? _ _ cj1)).trans cj1; have HB1 := Aside0.mk (show Below W.heap.size W w2 from below_step (by repeat (first | exact Below.refl _ _ | apply below_drew)) hb); clear hb) | (have HB2 := Aside0.mk (show Below W.heap.size W w2 from below_step (by repeat (first | exact HB1.out | apply below_drew)) hb); clear hb))))
  all_goals go_wp2
  all_goals go_ret
  all_goals exact ⟨(show Ending.returned (.int .i64 (IntKind.i64.wrap (kx - ky))) = _ by rw [HWR.out]), HB2.out⟩
/-- A call of a function value. -/
theorem goesV_ {P : Program} {ops : Array Oper} {oi : Oper} {N : Option Tmp} {a : Act} {w : World} {K : Act → World → Prop} {Q : Exit → Act → World → Prop} {g : FuncId} {cb : Array Value} {o : Operand} {os : Array Operand} {ts : Array TypeId} (eg : ∀ args w, (callFunc g args).run P w = .ok (.enter g args) w) (args : Array Value)
    (hw : Region.wanted oi (yielded ops a.tmps) = true) (hN : oi.dst = N) (hop : oi.op = .call { callee := .value o, args := os, argTypes := ts }) (ho : a.eval o = .func (.func g) #[] cb) (hargs : os.map a.eval = args)
    (h : Calls P g (args ++ cb) w fun e w' => ∃ v, e = .returned v ∧ K (a.put N v) w') : if Region.wanted oi (yielded ops a.tmps) = true then Oper.wp P oi a w K Q else K (a.put N undef) w := by
  refine call_ g (args ++ cb) hw hN ?_ h
  unfold execOp
  simp [hop, resolve, Deferred.ofValue, invoke, ho, hargs, eg]
/-- A store in a region that draws its order. -/
theorem stor_ {P : Program} {ops : Array Oper} {oi : Oper} {a : Act} {w : World} {K : Act → World → Prop} {Q : Exit → Act → World → Prop} {N : Option Tmp} (hw : Region.wanted oi (yielded ops a.tmps) = true) (hN : oi.dst = N) {w1 : World} (hrun : (execOp a.eval oi).run P w = .ok .skip w1) (h : K (a.put N undef) w1) : if Region.wanted oi (yielded ops a.tmps) = true then Oper.wp P oi a w K Q else K (a.put N undef) w := by
  subst hN
  rw [if_pos hw]
  unfold Oper.wp
  rw [hrun]
  exact h
def CmpAsks (P : Program) (g : FuncId) (cb : Array Value) (lt : Value → Value → Bool) (base : Nat) (W0 : World) (S : Value → Prop) : Prop :=
  ∀ W x y, S x → S y → Below base W0 W → base ≤ W.heap.size → Calls P g (#[x, y] ++ cb) W fun e w' => ∃ c : Int, e = .returned (.int .i64 c) ∧ decide (c < 0) = lt x y ∧ Below W.heap.size W w'
set_option maxHeartbeats 8000000 in
theorem ins_calls (g : FuncId) (cb : Array Value) (eg : ∀ args w, (callFunc g args).run Try.prog w = .ok (.enter g args) w) (lt : Value → Value → Bool) (base : Nat) (W0 : World) (B cap : Nat) (L : List Value) (W : World)
    (S : Value → Prop) (hS : ∀ v ∈ L, S v) (hlt : LtOk lt S) (hint : ∀ v, S v → ∃ z, v = .int .i64 z) (hc : CmpAsks Try.prog g cb lt base W0 S) (hb : Below base W0 W) (hbB : base ≤ B) (hrow : ValRow 3 W B cap L) (hsm : L.length ≤ 100) :
    Calls Try.prog 30 #[.slice (some ⟨B, 0, none⟩) L.length cap, .int .i64 0, .int .i64 (L.length : Int), .func (.func g) #[] cb] W fun e w' => e = .returned (.tuple #[]) ∧ Below base W0 w' ∧ ValRow 3 w' B cap (isortV lt L) := by
  have HS := Aside0.mk hS
  have HLT := Aside0.mk hlt
  have HI := Aside0.mk hint
  have HC := Aside0.mk hc
  have HB := Aside0.mk hb
  have HRW := Aside0.mk hrow
  have EG := Aside0.mk eg
  clear hS hlt hint hc hb hrow eg
  obtain ⟨adg, hadg⟩ : ∃ ad : Addr, ad = ⟨B, 0, none⟩ := ⟨_, rfl⟩
  have HADG := Aside0.mk hadg
  have HADD := Aside0.mk (show ∀ k, adg.add k = ⟨B, k, none⟩ from fun k => by rw [hadg, add_at, Nat.zero_add])
  rw [← hadg]
  clear hadg
  go_enter Try.func30, Try.ntmps30
  go_wp2
  go_loopw [8] (fun v8 wr => ∃ k : Nat, k ≤ L.length ∧ v8 = .int .i64 ((k + 1 : Nat) : Int) ∧ Aside0 (Below base W0 wr) ∧ Aside0 (base ≤ wr.heap.size) ∧ Aside0 (ValRow 3 wr B cap (isortV lt (L.take (k + 1)) ++ L.drop (k + 1)))) (fun v8 _ => L.length + 2 - (intOf v8).toNat)
  case atStart =>
    refine ⟨0, Nat.zero_le _, rfl, HB, ⟨Nat.le_of_lt (Nat.lt_of_le_of_lt hbB HRW.out.lt)⟩, ⟨?_⟩⟩
    cases L with
    | nil => exact HRW.out
    | cons x L => exact HRW.out
  case round =>
    obtain ⟨k, hk, rfl, HB1, HZ1, HRW1⟩ := hrel
    by_cases hlt : k + 1 < L.length
    · have hlt1 : decide (((k + 1 : Nat) : Int) < (L.length : Int)) = true := decide_eq_true (by omega)
      obtain ⟨x, hx⟩ : ∃ x, x = L[k + 1] := ⟨_, rfl⟩
      obtain ⟨p, hp⟩ : ∃ p, p = isortV lt (L.take (k + 1)) := ⟨_, rfl⟩
      obtain ⟨rest, hrest⟩ : ∃ rest, rest = L.drop (k + 2) := ⟨_, rfl⟩
      have hpl : p.length = k + 1 := by rw [hp, isortV_len, List.length_take]; omega
      have hSx : S x := by rw [hx]; exact HS.out _ (List.getElem_mem _)
      have hSp : ∀ y ∈ p, S y := fun y hy => by rw [hp, isortV_mem] at hy; exact HS.out y (List.mem_of_mem_take hy)
      have hsp : SrtV lt p := by rw [hp]; exact isortV_srt lt S HLT.out _ (fun y hy => HS.out y (List.mem_of_mem_take hy))
      have hnext : isortV lt (L.take (k + 2)) = insV lt x p := by rw [List.take_succ_eq_append_getElem hlt, isortV_snoc, ← hp, ← hx]
      have hcont : isortV lt (L.take (k + 1)) ++ L.drop (k + 1) = midRow p x rest (k + 1) := by
        have e1 : L.drop (k + 1) = x :: rest := by rw [List.drop_eq_getElem_cons hlt, hx, hrest]
        rw [← hp, e1]
        unfold midRow
        rw [List.take_of_length_le (by omega), List.drop_of_length_le (by omega)]
        rfl
      have HOUT := Aside0.mk (show ∀ j, (∀ y ∈ p.take j, lt x y = false) → (∀ y ∈ p.drop j, lt x y = true) → midRow p x rest j = isortV lt (L.take (k + 2)) ++ L.drop (k + 2) from fun j h1 h2 => by
        have e := insV_split lt x (p.take j) (p.drop j) h1 h2
        rw [List.take_append_drop] at e
        rw [hnext, e, ← hrest]
        unfold midRow
        simp)
      have HSX := Aside0.mk hSx
      have HSP := Aside0.mk hSp
      have HSRT := Aside0.mk hsp
      rw [hcont] at HRW1
      clear hx hp hrest hcont hnext hSx hSp hsp
      go_wp2
      go_loopw [9] (fun v9 wr => ∃ j : Nat, j ≤ k + 1 ∧ v9 = .int .i64 (j : Int) ∧ Aside0 (Below base W0 wr) ∧ Aside0 (base ≤ wr.heap.size) ∧ Aside0 (ValRow 3 wr B cap (midRow p x rest j)) ∧ Aside0 (∀ y ∈ p.drop j, lt x y = true)) (fun v9 _ => (intOf v9).toNat)
      case atStart => exact ⟨k + 1, Nat.le_refl _, rfl, HB1, HZ1, HRW1, ⟨fun y hy => by rw [List.drop_of_length_le (by omega)] at hy; exact absurd hy List.not_mem_nil⟩⟩
      case round =>
        clear HB1 HZ1 HRW1
        obtain ⟨j, hj, rfl, HB2, HZ2, HRW2, HGT⟩ := hrel
        by_cases hj0 : j = 0
        · subst hj0
          have hd0 : decide (((0 : Nat) : Int) > 0) = false := rfl
          go_wp2
          go_quiet (fail)
          go_wp2
          go_roundw
          case rel => exact ⟨k + 1, by omega, by go_num, ⟨pw_below_drewN HB2.out _⟩, ⟨by simpa using HZ2.out⟩, ⟨by rw [← HOUT.out 0 (fun y hy => absurd hy List.not_mem_nil) HGT.out]; exact HRW2.out.of_block rfl⟩⟩
          case measure => simp [intOf]; omega
        · obtain ⟨jp, rfl⟩ : ∃ jp, j = jp + 1 := ⟨j - 1, by omega⟩
          have hjp : jp < p.length := by omega
          obtain ⟨zx, rfl⟩ := HI.out x HSX.out
          obtain ⟨zy, hzy⟩ := HI.out p[jp] (HSP.out _ (List.getElem_mem hjp))
          have m1 := midRow_at p (.int .i64 zx) rest (jp + 1) (by omega)
          have m2 := midRow_pre p (.int .i64 zx) rest jp hjp
          have m3 := midRow_swap p (.int .i64 zx) rest jp hjp
          rw [hzy] at m2 m3
          have HCC := Aside0.mk (fun W' h1 h2 => HC.out W' (.int .i64 zx) (.int .i64 zy) HSX.out (by rw [← hzy]; exact HSP.out _ (List.getElem_mem hjp)) h1 h2)
          obtain ⟨cur, hg, hcj⟩ := HRW2.out.at (jp + 1) _ m1
          obtain ⟨cur', hg', hcp⟩ := HRW2.out.at jp _ m2
          obtain rfl : cur = cur' := by
            rw [hg] at hg'
            injection hg' with e
            injection e
          have ca : wr.cell? (adg.add (jp + 1)) = some (.int .i64 zx) := by rw [HADG.out, add_at, Nat.zero_add]; exact (blk_cell hg _).trans hcj
          have cb' : wr.cell? (adg.add jp) = some (.int .i64 zy) := by rw [HADG.out, add_at, Nat.zero_add]; exact (blk_cell hg _).trans hcp
          have fa : wr.frozen? (adg.add (jp + 1)) = false := by rw [HADG.out, add_at]; exact blk_frozen hg _
          have fb : wr.frozen? (adg.add jp) = false := by rw [HADG.out, add_at]; exact blk_frozen hg _
          have HM3 := Aside0.mk m3
          have HM2 := Aside0.mk m2
          have hwp : IntKind.i64.wrap (jp : Int) = (jp : Int) := by rw [IntKind.wrap_i64]; omega
          have zjp : ((jp + 1 : Nat) : Int) = (jp : Int) + 1 := rfl
          have hd0 : decide (((jp : Int) + 1) > 0) = true := decide_eq_true (by omega)
          have hd1 : ((jp : Int) + 1) < (L.length : Int) := by omega
          have hd2 : (jp : Int) < (L.length : Int) := by omega
          have e0 : ((jp : Int) + 1).toNat = jp + 1 := by omega
          have HZY := Aside0.mk hzy
          rw [zjp]
          clear m1 m2 m3 hg hg' hcj hcp hzy zjp
          have HB3 := Aside0.mk (show Below base W0 wr.drew from below_drew1 HB2.out)
          have HZ3 := Aside0.mk (show base ≤ wr.drew.heap.size from HZ2.out)
          have HR3 := Aside0.mk (show ValRow 3 wr.drew B cap (midRow p (.int .i64 zx) rest (jp + 1)) from HRW2.out.of_block rfl)
          have ca3 : wr.drew.cell? (adg.add (jp + 1)) = some (.int .i64 zx) := ca
          have cb3 : wr.drew.cell? (adg.add jp) = some (.int .i64 zy) := cb'
          clear ca cb' fa fb
          obtain ⟨j1, hj1⟩ : ∃ j1, j1 = jp + 1 := ⟨_, rfl⟩
          have HJ1 := Aside0.mk hj1
          have p0 : (0 ≤ (jp : Int) + 1) = True := eq_true (by omega)
          have q0 : ((jp : Int) + 1 < (L.length : Int)) = True := eq_true (by omega)
          have q1 : ((jp : Int) < (L.length : Int)) = True := eq_true (by omega)
          rw [← hj1] at e0 ca3
          clear hj1
          cases hlv : lt (.int .i64 zx) (.int .i64 zy) with
          | true =>
            go_wp2
            refine start_ (n := 17) (S := fun w' => w'.cell? (adg.add j1) = some (.int .i64 zx) ∧ w'.cell? (adg.add jp) = some (.int .i64 zy)) (ds := []) #[false, false, false, false, false, false, false, false, false, false, false, false, false, false, false, false, false] (by kernel_rfl) rfl rfl ⟨ca3, cb3⟩ (fun hHeld => ?_)
            generalize wr.drew = w17 at HB3 HZ3 HR3 ca3 cb3 hHeld ⊢
            refine pure_ (i := 0) (N := some 18) (v := ?_) (a' := ?_) #[true, false, false, false, false, false, false, false, false, false, false, false, false, false, false, false, false] rfl rfl (by kernel_rfl) (fun _ _ _ h => h) (Or.inl ⟨by rfl, ?_⟩) ?_ ?_
            rotate_left
            · intro w'
              go_simp
              with_reducible rfl
            rotate_left
            · simp only [Act.put, List.setIfInBounds_toArray, List.set_cons_zero, List.set_cons_succ, i64_w, i32_w]
              rfl
            refine pure_ (i := 1) (N := some 19) (v := ?_) (a' := ?_) #[true, true, false, false, false, false, false, false, false, false, false, false, false, false, false, false, false] rfl rfl (by kernel_rfl) (fun _ _ _ h => h) (Or.inl ⟨by rfl, ?_⟩) ?_ ?_
            rotate_left
            · intro w'
              go_simp
              with_reducible rfl
            rotate_left
            · simp only [Act.put, List.setIfInBounds_toArray, List.set_cons_zero, List.set_cons_succ, i64_w, i32_w]
              rfl
            refine pure_ (i := 2) (N := some 20) (v := ?_) (a' := ?_) #[true, true, true, false, false, false, false, false, false, false, false, false, false, false, false, false, false] rfl rfl (by kernel_rfl) (fun _ _ _ h => h) (Or.inl ⟨by rfl, ?_⟩) ?_ ?_
            rotate_left
            · intro w'
              go_simp
              with_reducible rfl
            rotate_left
            · simp only [Act.put, List.setIfInBounds_toArray, List.set_cons_zero, List.set_cons_succ, i64_w, i32_w]
              rfl
            refine pure_ (i := 3) (N := some 21) (v := ?_) (a' := ?_) #[true, true, true, true, false, false, false, false, false, false, false, false, false, false, false, false, false] rfl rfl (by kernel_rfl) (fun _ _ _ h => h) (Or.inl ⟨by rfl, ?_⟩) ?_ ?_
            rotate_left
            · intro w'
              go_simp
              with_reducible rfl
            rotate_left
            · simp only [Act.put, List.setIfInBounds_toArray, List.set_cons_zero, List.set_cons_succ, i64_w, i32_w]
              rfl
            refine pure_ (i := 4) (N := some 22) (v := ?_) (a' := ?_) #[true, true, true, true, true, false, false, false, false, false, false, false, false, false, false, false, false] rfl rfl (by kernel_rfl) (fun _ _ _ h => h) (Or.inl ⟨by rfl, ?_⟩) ?_ ?_
            rotate_left
            · intro w'
              go_simp
              with_reducible rfl
            rotate_left
            · simp only [Act.put, List.setIfInBounds_toArray, List.set_cons_zero, List.set_cons_succ, i64_w, i32_w]
              rfl
            refine pure_ (i := 5) (N := some 23) (v := ?_) (a' := ?_) #[true, true, true, true, true, true, false, false, false, false, false, false, false, false, false, false, false] rfl rfl (by kernel_rfl) (fun _ _ _ h => h) (Or.inl ⟨by rfl, ?_⟩) ?_ ?_
            rotate_left
            · intro w'
              go_simp
              with_reducible rfl
            rotate_left
            · simp only [Act.put, List.setIfInBounds_toArray, List.set_cons_zero, List.set_cons_succ, i64_w, i32_w]
              rfl
            refine pure_ (i := 6) (N := some 24) (v := ?_) (a' := ?_) #[true, true, true, true, true, true, true, false, false, false, false, false, false, false, false, false, false] rfl rfl (by kernel_rfl) (fun _ _ _ h => h) (Or.inl ⟨by rfl, ?_⟩) ?_ ?_
            rotate_left
            · intro w'
              go_simp
              with_reducible rfl
            rotate_left
            · simp only [Act.put, List.setIfInBounds_toArray, List.set_cons_zero, List.set_cons_succ, i64_w, i32_w]
              rfl
            refine pure_ (i := 7) (N := some 25) (v := ?_) (a' := ?_) #[true, true, true, true, true, true, true, true, false, false, false, false, false, false, false, false, false] rfl rfl (by kernel_rfl) (fun _ _ _ h => h) (Or.inl ⟨by rfl, ?_⟩) ?_ ?_
            rotate_left
            · intro w'
              go_simp
              with_reducible rfl
            rotate_left
            · simp only [Act.put, List.setIfInBounds_toArray, List.set_cons_zero, List.set_cons_succ, i64_w, i32_w]
              rfl
            refine take_ (i := 8) (N := some 26) (v := ?_) (a' := ?_) #[true, true, true, true, true, true, true, true, true, false, false, false, false, false, false, false, false] rfl rfl (by kernel_rfl) (fun _ _ _ h => h) (Or.inl ⟨by rfl, ?_⟩) hHeld ?_ ?_
            rotate_left
            · rintro w' ⟨s0, s1⟩
              go_simp
              with_reducible rfl
            rotate_left
            · simp only [Act.put, List.setIfInBounds_toArray, List.set_cons_zero, List.set_cons_succ, i64_w, i32_w]
              rfl
            refine pure_ (i := 9) (N := some 27) (v := ?_) (a' := ?_) #[true, true, true, true, true, true, true, true, true, true, false, false, false, false, false, false, false] rfl rfl (by kernel_rfl) (fun _ _ _ h => h) (Or.inl ⟨by rfl, ?_⟩) ?_ ?_
            rotate_left
            · intro w'
              go_simp
              with_reducible rfl
            rotate_left
            · simp only [Act.put, List.setIfInBounds_toArray, List.set_cons_zero, List.set_cons_succ, i64_w, i32_w]
              rfl
            refine pure_ (i := 10) (N := some 28) (v := ?_) (a' := ?_) #[true, true, true, true, true, true, true, true, true, true, true, false, false, false, false, false, false] rfl rfl (by kernel_rfl) (fun _ _ _ h => h) (Or.inl ⟨by rfl, ?_⟩) ?_ ?_
            rotate_left
            · intro w'
              go_simp
              with_reducible rfl
            rotate_left
            · simp only [Act.put, List.setIfInBounds_toArray, List.set_cons_zero, List.set_cons_succ, i64_w, i32_w]
              rfl
            refine pure_ (i := 11) (N := some 29) (v := ?_) (a' := ?_) #[true, true, true, true, true, true, true, true, true, true, true, true, false, false, false, false, false] rfl rfl (by kernel_rfl) (fun _ _ _ h => h) (Or.inl ⟨by rfl, ?_⟩) ?_ ?_
            rotate_left
            · intro w'
              go_simp
              with_reducible rfl
            rotate_left
            · simp only [Act.put, List.setIfInBounds_toArray, List.set_cons_zero, List.set_cons_succ, i64_w, i32_w]
              rfl
            refine pure_ (i := 12) (N := some 30) (v := ?_) (a' := ?_) #[true, true, true, true, true, true, true, true, true, true, true, true, true, false, false, false, false] rfl rfl (by kernel_rfl) (fun _ _ _ h => h) (Or.inl ⟨by rfl, ?_⟩) ?_ ?_
            rotate_left
            · intro w'
              go_simp
              with_reducible rfl
            rotate_left
            · simp only [Act.put, List.setIfInBounds_toArray, List.set_cons_zero, List.set_cons_succ, i64_w, i32_w]
              rfl
            refine take_ (i := 13) (N := some 31) (v := ?_) (a' := ?_) #[true, true, true, true, true, true, true, true, true, true, true, true, true, true, false, false, false] rfl rfl (by kernel_rfl) (fun _ _ _ h => h) (Or.inl ⟨by rfl, ?_⟩) hHeld ?_ ?_
            rotate_left
            · rintro w' ⟨s0, s1⟩
              go_simp
              with_reducible rfl
            rotate_left
            · simp only [Act.put, List.setIfInBounds_toArray, List.set_cons_zero, List.set_cons_succ, i64_w, i32_w]
              rfl
            refine one_ (i := 14) (N := some 32) #[true, true, true, true, true, true, true, true, true, true, true, true, true, true, true, false, false] rfl rfl (by kernel_rfl) (by decide) (fun K hK => ?_)
            refine goesV_ EG.out #[.int .i64 zx, .int .i64 zy] (by rfl) rfl rfl (by rfl) (by simp only [List.map_toArray, List.map_cons, List.map_nil]; rfl) ?_
            with_reducible refine (HCC.out _ HB3.out HZ3.out).mono ?_
            rintro e w2 ⟨cc, rfl, hcl, hb⟩
            refine ⟨_, rfl, ?_⟩
            have ca2 := (hb.cell (World.block_lt_of_cell? _ _ hHeld.1)).trans hHeld.1
            have cb2 := (hb.cell (World.block_lt_of_cell? _ _ hHeld.2)).trans hHeld.2
            have HB4 := Aside0.mk (show Below base W0 w2 from below_then HB3.out HZ3.out hb)
            have HZ4 := Aside0.mk (Nat.le_trans HZ3.out hb.size)
            have HR4 := Aside0.mk (HR3.out.of_block (hb.block _ HR3.out.lt))
            have hcc : decide (cc < 0) = _ := hcl.trans hlv
            clear hcl hb
            refine hK.out _ _ ⟨ca2, cb2⟩ (fun hHeld => ?_)
            clear hK K
            refine norm_ (a' := ?_) ?_ ?_
            rotate_left
            · show Act.put _ (some 32) _ = _
              simp only [Act.put, List.setIfInBounds_toArray, List.set_cons_zero, List.set_cons_succ, i64_w, i32_w]
              rfl
            refine pure_ (i := 15) (N := some 33) (v := ?_) (a' := ?_) #[true, true, true, true, true, true, true, true, true, true, true, true, true, true, true, true, false] rfl rfl (by kernel_rfl) (fun _ _ _ h => h) (Or.inl ⟨by rfl, ?_⟩) ?_ ?_
            rotate_left
            · intro w'
              go_simp
              with_reducible rfl
            rotate_left
            · simp only [Act.put, List.setIfInBounds_toArray, List.set_cons_zero, List.set_cons_succ, i64_w, i32_w]
              rfl
            refine pure_ (i := 16) (N := some 34) (v := ?_) (a' := ?_) #[true, true, true, true, true, true, true, true, true, true, true, true, true, true, true, true, true] rfl rfl (by kernel_rfl) (fun _ _ _ h => h) (Or.inl ⟨by rfl, ?_⟩) ?_ ?_
            rotate_left
            · intro w'
              go_simp
              with_reducible rfl
            rotate_left
            · simp only [Act.put, List.setIfInBounds_toArray, List.set_cons_zero, List.set_cons_succ, i64_w, i32_w]
              rfl
            refine done_ (by kernel_rfl) ?_
            clear ca3 cb3 hHeld
            go_wp2
            have ca4 : w2.drew.cell? (adg.add j1) = some (.int .i64 zx) := ca2
            have cb4 : w2.drew.cell? (adg.add jp) = some (.int .i64 zy) := cb2
            have fa4 : w2.drew.frozen? (adg.add j1) = false := by obtain ⟨cur, hg, _⟩ := HR4.out; rw [HADG.out, add_at]; exact blk_frozen (blk_drew hg) _
            have fb4 : w2.drew.frozen? (adg.add jp) = false := by obtain ⟨cur, hg, _⟩ := HR4.out; rw [HADG.out, add_at]; exact blk_frozen (blk_drew hg) _
            have HB5 := Aside0.mk (show Below base W0 w2.drew from below_drew1 HB4.out)
            have HZ5 := Aside0.mk (show base ≤ w2.drew.heap.size from HZ4.out)
            have HR5 := Aside0.mk (show ValRow 3 w2.drew B cap (midRow p (.int .i64 zx) rest (jp + 1)) from HR4.out.of_block rfl)
            clear ca2 cb2 HB4 HZ4 HR4
            refine start_ (n := 18) (S := fun w' => w'.cell? (adg.add j1) = some (.int .i64 zx) ∧ w'.cell? (adg.add jp) = some (.int .i64 zy)) (ds := [15, 17]) #[false, false, false, false, false, false, false, false, false, false, false, false, false, false, false, false, false, false] (by kernel_rfl) rfl rfl ⟨ca4, cb4⟩ (fun hHeld => ?_)
            generalize w2.drew = w18 at HB5 HZ5 HR5 ca4 cb4 fa4 fb4 hHeld ⊢
            refine pure_ (i := 0) (N := some 37) (v := ?_) (a' := ?_) #[true, false, false, false, false, false, false, false, false, false, false, false, false, false, false, false, false, false] rfl rfl (by kernel_rfl) (fun _ _ _ h => h) (Or.inl ⟨by rfl, ?_⟩) ?_ ?_
            rotate_left
            · intro w'
              go_simp
              with_reducible rfl
            rotate_left
            · simp only [Act.put, List.setIfInBounds_toArray, List.set_cons_zero, List.set_cons_succ, i64_w, i32_w]
              rfl
            refine pure_ (i := 1) (N := some 38) (v := ?_) (a' := ?_) #[true, true, false, false, false, false, false, false, false, false, false, false, false, false, false, false, false, false] rfl rfl (by kernel_rfl) (fun _ _ _ h => h) (Or.inl ⟨by rfl, ?_⟩) ?_ ?_
            rotate_left
            · intro w'
              go_simp
              with_reducible rfl
            rotate_left
            · simp only [Act.put, List.setIfInBounds_toArray, List.set_cons_zero, List.set_cons_succ, i64_w, i32_w]
              rfl
            refine pure_ (i := 2) (N := some 39) (v := ?_) (a' := ?_) #[true, true, true, false, false, false, false, false, false, false, false, false, false, false, false, false, false, false] rfl rfl (by kernel_rfl) (fun _ _ _ h => h) (Or.inl ⟨by rfl, ?_⟩) ?_ ?_
            rotate_left
            · intro w'
              go_simp
              with_reducible rfl
            rotate_left
            · simp only [Act.put, List.setIfInBounds_toArray, List.set_cons_zero, List.set_cons_succ, i64_w, i32_w]
              rfl
            refine pure_ (i := 3) (N := some 40) (v := ?_) (a' := ?_) #[true, true, true, true, false, false, false, false, false, false, false, false, false, false, false, false, false, false] rfl rfl (by kernel_rfl) (fun _ _ _ h => h) (Or.inl ⟨by rfl, ?_⟩) ?_ ?_
            rotate_left
            · intro w'
              go_simp
              with_reducible rfl
            rotate_left
            · simp only [Act.put, List.setIfInBounds_toArray, List.set_cons_zero, List.set_cons_succ, i64_w, i32_w]
              rfl
            refine pure_ (i := 4) (N := some 41) (v := ?_) (a' := ?_) #[true, true, true, true, true, false, false, false, false, false, false, false, false, false, false, false, false, false] rfl rfl (by kernel_rfl) (fun _ _ _ h => h) (Or.inl ⟨by rfl, ?_⟩) ?_ ?_
            rotate_left
            · intro w'
              go_simp
              with_reducible rfl
            rotate_left
            · simp only [Act.put, List.setIfInBounds_toArray, List.set_cons_zero, List.set_cons_succ, i64_w, i32_w]
              rfl
            refine pure_ (i := 5) (N := some 42) (v := ?_) (a' := ?_) #[true, true, true, true, true, true, false, false, false, false, false, false, false, false, false, false, false, false] rfl rfl (by kernel_rfl) (fun _ _ _ h => h) (Or.inl ⟨by rfl, ?_⟩) ?_ ?_
            rotate_left
            · intro w'
              go_simp
              with_reducible rfl
            rotate_left
            · simp only [Act.put, List.setIfInBounds_toArray, List.set_cons_zero, List.set_cons_succ, i64_w, i32_w]
              rfl
            refine pure_ (i := 6) (N := some 43) (v := ?_) (a' := ?_) #[true, true, true, true, true, true, true, false, false, false, false, false, false, false, false, false, false, false] rfl rfl (by kernel_rfl) (fun _ _ _ h => h) (Or.inl ⟨by rfl, ?_⟩) ?_ ?_
            rotate_left
            · intro w'
              go_simp
              with_reducible rfl
            rotate_left
            · simp only [Act.put, List.setIfInBounds_toArray, List.set_cons_zero, List.set_cons_succ, i64_w, i32_w]
              rfl
            refine pure_ (i := 7) (N := some 44) (v := ?_) (a' := ?_) #[true, true, true, true, true, true, true, true, false, false, false, false, false, false, false, false, false, false] rfl rfl (by kernel_rfl) (fun _ _ _ h => h) (Or.inl ⟨by rfl, ?_⟩) ?_ ?_
            rotate_left
            · intro w'
              go_simp
              with_reducible rfl
            rotate_left
            · simp only [Act.put, List.setIfInBounds_toArray, List.set_cons_zero, List.set_cons_succ, i64_w, i32_w]
              rfl
            refine pure_ (i := 8) (N := some 45) (v := ?_) (a' := ?_) #[true, true, true, true, true, true, true, true, true, false, false, false, false, false, false, false, false, false] rfl rfl (by kernel_rfl) (fun _ _ _ h => h) (Or.inl ⟨by rfl, ?_⟩) ?_ ?_
            rotate_left
            · intro w'
              go_simp
              with_reducible rfl
            rotate_left
            · simp only [Act.put, List.setIfInBounds_toArray, List.set_cons_zero, List.set_cons_succ, i64_w, i32_w]
              rfl
            refine take_ (i := 9) (N := some 46) (v := ?_) (a' := ?_) #[true, true, true, true, true, true, true, true, true, true, false, false, false, false, false, false, false, false] rfl rfl (by kernel_rfl) (fun _ _ _ h => h) (Or.inl ⟨by rfl, ?_⟩) hHeld ?_ ?_
            rotate_left
            · rintro w' ⟨s0, s1⟩
              go_simp
              with_reducible rfl
            rotate_left
            · simp only [Act.put, List.setIfInBounds_toArray, List.set_cons_zero, List.set_cons_succ, i64_w, i32_w]
              rfl
            refine pure_ (i := 10) (N := some 47) (v := ?_) (a' := ?_) #[true, true, true, true, true, true, true, true, true, true, true, false, false, false, false, false, false, false] rfl rfl (by kernel_rfl) (fun _ _ _ h => h) (Or.inl ⟨by rfl, ?_⟩) ?_ ?_
            rotate_left
            · intro w'
              go_simp
              with_reducible rfl
            rotate_left
            · simp only [Act.put, List.setIfInBounds_toArray, List.set_cons_zero, List.set_cons_succ, i64_w, i32_w]
              rfl
            refine pure_ (i := 11) (N := some 48) (v := ?_) (a' := ?_) #[true, true, true, true, true, true, true, true, true, true, true, true, false, false, false, false, false, false] rfl rfl (by kernel_rfl) (fun _ _ _ h => h) (Or.inl ⟨by rfl, ?_⟩) ?_ ?_
            rotate_left
            · intro w'
              go_simp
              with_reducible rfl
            rotate_left
            · simp only [Act.put, List.setIfInBounds_toArray, List.set_cons_zero, List.set_cons_succ, i64_w, i32_w]
              rfl
            refine pure_ (i := 12) (N := some 49) (v := ?_) (a' := ?_) #[true, true, true, true, true, true, true, true, true, true, true, true, true, false, false, false, false, false] rfl rfl (by kernel_rfl) (fun _ _ _ h => h) (Or.inl ⟨by rfl, ?_⟩) ?_ ?_
            rotate_left
            · intro w'
              go_simp
              with_reducible rfl
            rotate_left
            · simp only [Act.put, List.setIfInBounds_toArray, List.set_cons_zero, List.set_cons_succ, i64_w, i32_w]
              rfl
            refine take_ (i := 13) (N := some 50) (v := ?_) (a' := ?_) #[true, true, true, true, true, true, true, true, true, true, true, true, true, true, false, false, false, false] rfl rfl (by kernel_rfl) (fun _ _ _ h => h) (Or.inl ⟨by rfl, ?_⟩) hHeld ?_ ?_
            rotate_left
            · rintro w' ⟨s0, s1⟩
              go_simp
              with_reducible rfl
            rotate_left
            · simp only [Act.put, List.setIfInBounds_toArray, List.set_cons_zero, List.set_cons_succ, i64_w, i32_w]
              rfl
            refine pure_ (i := 14) (N := some 51) (v := ?_) (a' := ?_) #[true, true, true, true, true, true, true, true, true, true, true, true, true, true, true, false, false, false] rfl rfl (by kernel_rfl) (fun _ _ _ h => h) (Or.inl ⟨by rfl, ?_⟩) ?_ ?_
            rotate_left
            · intro w'
              go_simp
              with_reducible rfl
            rotate_left
            · simp only [Act.put, List.setIfInBounds_toArray, List.set_cons_zero, List.set_cons_succ, i64_w, i32_w]
              rfl
            refine last_ (i := 15) (N := none) #[true, true, true, true, true, true, true, true, true, true, true, true, true, true, true, true, false, false] rfl rfl (by kernel_rfl) (by decide) (fun K hK => ?_)
            refine stor_ (by rfl) rfl (w1 := ?_) ?_ ?_
            rotate_left
            · go_simp
              rfl
            refine hK.out _ _ ?_
            clear hK K
            refine norm_ (a' := ?_) ?_ ?_
            rotate_left
            · show Act.put _ none _ = _
              simp only [Act.put]
              rfl
            refine pure_ (i := 16) (N := some 52) (v := ?_) (a' := ?_) #[true, true, true, true, true, true, true, true, true, true, true, true, true, true, true, true, true, false] rfl rfl (by kernel_rfl) (fun _ _ _ h => h) (Or.inl ⟨by rfl, ?_⟩) ?_ ?_
            rotate_left
            · intro w'
              go_simp
              with_reducible rfl
            rotate_left
            · simp only [Act.put, List.setIfInBounds_toArray, List.set_cons_zero, List.set_cons_succ, i64_w, i32_w]
              rfl
            have HR6 := Aside0.mk (show ValRow 3 (w18.setCell (adg.add j1) (.int .i64 zy)) B cap ((midRow p (.int .i64 zx) rest (jp + 1)).set j1 (.int .i64 zy)) by rw [HADD.out]; exact HR5.out.set _ _)
            have cs : (w18.setCell (adg.add j1) (.int .i64 zy)).cell? (adg.add jp) = some (.int .i64 zy) := by
              obtain ⟨cur, hg, hc⟩ := HR6.out.at jp (.int .i64 zy) (by rw [List.getElem?_set_ne (by rw [HJ1.out]; omega)]; exact HM2.out)
              rw [HADD.out jp]
              exact (blk_cell hg _).trans hc
            refine last_ (i := 17) (N := none) #[true, true, true, true, true, true, true, true, true, true, true, true, true, true, true, true, true, true] rfl rfl (by kernel_rfl) (by decide) (fun K hK => ?_)
            refine stor_ (by rfl) rfl (w1 := ?_) ?_ ?_
            rotate_left
            · go_simp
              rfl
            refine hK.out _ _ ?_
            clear hK K
            refine norm_ (a' := ?_) ?_ ?_
            rotate_left
            · show Act.put _ none _ = _
              simp only [Act.put]
              rfl
            refine done_ (by kernel_rfl) ?_
            clear ca4 cb4 fa4 fb4 cs hHeld
            go_wp2
            go_roundw
            case rel => exact ⟨jp, by omega, by go_num, ⟨by rw [HADD.out, HADD.out]; exact (HB5.out.setCell hbB _).setCell hbB _⟩, ⟨by simpa using HZ5.out⟩, ⟨by have h := HR6.out.set jp (.int .i64 zx); rw [HJ1.out, HM3.out] at h; rw [HADD.out jp, HJ1.out]; exact h⟩, ⟨fun y hy => by
              rw [List.drop_eq_getElem_cons hjp] at hy
              rcases List.mem_cons.1 hy with rfl | hy
              · rw [HZY.out]; exact hlv
              · exact HGT.out y hy⟩⟩
            case measure => first | (simp [intOf]; done) | (simp [intOf]; omega)
          | false =>
            go_wp2
            refine start_ (n := 17) (S := fun w' => w'.cell? (adg.add j1) = some (.int .i64 zx) ∧ w'.cell? (adg.add jp) = some (.int .i64 zy)) (ds := []) #[false, false, false, false, false, false, false, false, false, false, false, false, false, false, false, false, false] (by kernel_rfl) rfl rfl ⟨ca3, cb3⟩ (fun hHeld => ?_)
            generalize wr.drew = w17 at HB3 HZ3 HR3 ca3 cb3 hHeld ⊢
            refine pure_ (i := 0) (N := some 18) (v := ?_) (a' := ?_) #[true, false, false, false, false, false, false, false, false, false, false, false, false, false, false, false, false] rfl rfl (by kernel_rfl) (fun _ _ _ h => h) (Or.inl ⟨by rfl, ?_⟩) ?_ ?_
            rotate_left
            · intro w'
              go_simp
              with_reducible rfl
            rotate_left
            · simp only [Act.put, List.setIfInBounds_toArray, List.set_cons_zero, List.set_cons_succ, i64_w, i32_w]
              rfl
            refine pure_ (i := 1) (N := some 19) (v := ?_) (a' := ?_) #[true, true, false, false, false, false, false, false, false, false, false, false, false, false, false, false, false] rfl rfl (by kernel_rfl) (fun _ _ _ h => h) (Or.inl ⟨by rfl, ?_⟩) ?_ ?_
            rotate_left
            · intro w'
              go_simp
              with_reducible rfl
            rotate_left
            · simp only [Act.put, List.setIfInBounds_toArray, List.set_cons_zero, List.set_cons_succ, i64_w, i32_w]
              rfl
            refine pure_ (i := 2) (N := some 20) (v := ?_) (a' := ?_) #[true, true, true, false, false, false, false, false, false, false, false, false, false, false, false, false, false] rfl rfl (by kernel_rfl) (fun _ _ _ h => h) (Or.inl ⟨by rfl, ?_⟩) ?_ ?_
            rotate_left
            · intro w'
              go_simp
              with_reducible rfl
            rotate_left
            · simp only [Act.put, List.setIfInBounds_toArray, List.set_cons_zero, List.set_cons_succ, i64_w, i32_w]
              rfl
            refine pure_ (i := 3) (N := some 21) (v := ?_) (a' := ?_) #[true, true, true, true, false, false, false, false, false, false, false, false, false, false, false, false, false] rfl rfl (by kernel_rfl) (fun _ _ _ h => h) (Or.inl ⟨by rfl, ?_⟩) ?_ ?_
            rotate_left
            · intro w'
              go_simp
              with_reducible rfl
            rotate_left
            · simp only [Act.put, List.setIfInBounds_toArray, List.set_cons_zero, List.set_cons_succ, i64_w, i32_w]
              rfl
            refine pure_ (i := 4) (N := some 22) (v := ?_) (a' := ?_) #[true, true, true, true, true, false, false, false, false, false, false, false, false, false, false, false, false] rfl rfl (by kernel_rfl) (fun _ _ _ h => h) (Or.inl ⟨by rfl, ?_⟩) ?_ ?_
            rotate_left
            · intro w'
              go_simp
              with_reducible rfl
            rotate_left
            · simp only [Act.put, List.setIfInBounds_toArray, List.set_cons_zero, List.set_cons_succ, i64_w, i32_w]
              rfl
            refine pure_ (i := 5) (N := some 23) (v := ?_) (a' := ?_) #[true, true, true, true, true, true, false, false, false, false, false, false, false, false, false, false, false] rfl rfl (by kernel_rfl) (fun _ _ _ h => h) (Or.inl ⟨by rfl, ?_⟩) ?_ ?_
            rotate_left
            · intro w'
              go_simp
              with_reducible rfl
            rotate_left
            · simp only [Act.put, List.setIfInBounds_toArray, List.set_cons_zero, List.set_cons_succ, i64_w, i32_w]
              rfl
            refine pure_ (i := 6) (N := some 24) (v := ?_) (a' := ?_) #[true, true, true, true, true, true, true, false, false, false, false, false, false, false, false, false, false] rfl rfl (by kernel_rfl) (fun _ _ _ h => h) (Or.inl ⟨by rfl, ?_⟩) ?_ ?_
            rotate_left
            · intro w'
              go_simp
              with_reducible rfl
            rotate_left
            · simp only [Act.put, List.setIfInBounds_toArray, List.set_cons_zero, List.set_cons_succ, i64_w, i32_w]
              rfl
            refine pure_ (i := 7) (N := some 25) (v := ?_) (a' := ?_) #[true, true, true, true, true, true, true, true, false, false, false, false, false, false, false, false, false] rfl rfl (by kernel_rfl) (fun _ _ _ h => h) (Or.inl ⟨by rfl, ?_⟩) ?_ ?_
            rotate_left
            · intro w'
              go_simp
              with_reducible rfl
            rotate_left
            · simp only [Act.put, List.setIfInBounds_toArray, List.set_cons_zero, List.set_cons_succ, i64_w, i32_w]
              rfl
            refine take_ (i := 8) (N := some 26) (v := ?_) (a' := ?_) #[true, true, true, true, true, true, true, true, true, false, false, false, false, false, false, false, false] rfl rfl (by kernel_rfl) (fun _ _ _ h => h) (Or.inl ⟨by rfl, ?_⟩) hHeld ?_ ?_
            rotate_left
            · rintro w' ⟨s0, s1⟩
              go_simp
              with_reducible rfl
            rotate_left
            · simp only [Act.put, List.setIfInBounds_toArray, List.set_cons_zero, List.set_cons_succ, i64_w, i32_w]
              rfl
            refine pure_ (i := 9) (N := some 27) (v := ?_) (a' := ?_) #[true, true, true, true, true, true, true, true, true, true, false, false, false, false, false, false, false] rfl rfl (by kernel_rfl) (fun _ _ _ h => h) (Or.inl ⟨by rfl, ?_⟩) ?_ ?_
            rotate_left
            · intro w'
              go_simp
              with_reducible rfl
            rotate_left
            · simp only [Act.put, List.setIfInBounds_toArray, List.set_cons_zero, List.set_cons_succ, i64_w, i32_w]
              rfl
            refine pure_ (i := 10) (N := some 28) (v := ?_) (a' := ?_) #[true, true, true, true, true, true, true, true, true, true, true, false, false, false, false, false, false] rfl rfl (by kernel_rfl) (fun _ _ _ h => h) (Or.inl ⟨by rfl, ?_⟩) ?_ ?_
            rotate_left
            · intro w'
              go_simp
              with_reducible rfl
            rotate_left
            · simp only [Act.put, List.setIfInBounds_toArray, List.set_cons_zero, List.set_cons_succ, i64_w, i32_w]
              rfl
            refine pure_ (i := 11) (N := some 29) (v := ?_) (a' := ?_) #[true, true, true, true, true, true, true, true, true, true, true, true, false, false, false, false, false] rfl rfl (by kernel_rfl) (fun _ _ _ h => h) (Or.inl ⟨by rfl, ?_⟩) ?_ ?_
            rotate_left
            · intro w'
              go_simp
              with_reducible rfl
            rotate_left
            · simp only [Act.put, List.setIfInBounds_toArray, List.set_cons_zero, List.set_cons_succ, i64_w, i32_w]
              rfl
            refine pure_ (i := 12) (N := some 30) (v := ?_) (a' := ?_) #[true, true, true, true, true, true, true, true, true, true, true, true, true, false, false, false, false] rfl rfl (by kernel_rfl) (fun _ _ _ h => h) (Or.inl ⟨by rfl, ?_⟩) ?_ ?_
            rotate_left
            · intro w'
              go_simp
              with_reducible rfl
            rotate_left
            · simp only [Act.put, List.setIfInBounds_toArray, List.set_cons_zero, List.set_cons_succ, i64_w, i32_w]
              rfl
            refine take_ (i := 13) (N := some 31) (v := ?_) (a' := ?_) #[true, true, true, true, true, true, true, true, true, true, true, true, true, true, false, false, false] rfl rfl (by kernel_rfl) (fun _ _ _ h => h) (Or.inl ⟨by rfl, ?_⟩) hHeld ?_ ?_
            rotate_left
            · rintro w' ⟨s0, s1⟩
              go_simp
              with_reducible rfl
            rotate_left
            · simp only [Act.put, List.setIfInBounds_toArray, List.set_cons_zero, List.set_cons_succ, i64_w, i32_w]
              rfl
            refine one_ (i := 14) (N := some 32) #[true, true, true, true, true, true, true, true, true, true, true, true, true, true, true, false, false] rfl rfl (by kernel_rfl) (by decide) (fun K hK => ?_)
            refine goesV_ EG.out #[.int .i64 zx, .int .i64 zy] (by rfl) rfl rfl (by rfl) (by simp only [List.map_toArray, List.map_cons, List.map_nil]; rfl) ?_
            with_reducible refine (HCC.out _ HB3.out HZ3.out).mono ?_
            rintro e w2 ⟨cc, rfl, hcl, hb⟩
            refine ⟨_, rfl, ?_⟩
            have ca2 := (hb.cell (World.block_lt_of_cell? _ _ hHeld.1)).trans hHeld.1
            have cb2 := (hb.cell (World.block_lt_of_cell? _ _ hHeld.2)).trans hHeld.2
            have HB4 := Aside0.mk (show Below base W0 w2 from below_then HB3.out HZ3.out hb)
            have HZ4 := Aside0.mk (Nat.le_trans HZ3.out hb.size)
            have HR4 := Aside0.mk (HR3.out.of_block (hb.block _ HR3.out.lt))
            have hcc : decide (cc < 0) = _ := hcl.trans hlv
            clear hcl hb
            refine hK.out _ _ ⟨ca2, cb2⟩ (fun hHeld => ?_)
            clear hK K
            refine norm_ (a' := ?_) ?_ ?_
            rotate_left
            · show Act.put _ (some 32) _ = _
              simp only [Act.put, List.setIfInBounds_toArray, List.set_cons_zero, List.set_cons_succ, i64_w, i32_w]
              rfl
            refine pure_ (i := 15) (N := some 33) (v := ?_) (a' := ?_) #[true, true, true, true, true, true, true, true, true, true, true, true, true, true, true, true, false] rfl rfl (by kernel_rfl) (fun _ _ _ h => h) (Or.inl ⟨by rfl, ?_⟩) ?_ ?_
            rotate_left
            · intro w'
              go_simp
              with_reducible rfl
            rotate_left
            · simp only [Act.put, List.setIfInBounds_toArray, List.set_cons_zero, List.set_cons_succ, i64_w, i32_w]
              rfl
            refine pure_ (i := 16) (N := some 34) (v := ?_) (a' := ?_) #[true, true, true, true, true, true, true, true, true, true, true, true, true, true, true, true, true] rfl rfl (by kernel_rfl) (fun _ _ _ h => h) (Or.inl ⟨by rfl, ?_⟩) ?_ ?_
            rotate_left
            · intro w'
              go_simp
              with_reducible rfl
            rotate_left
            · simp only [Act.put, List.setIfInBounds_toArray, List.set_cons_zero, List.set_cons_succ, i64_w, i32_w]
              rfl
            refine done_ (by kernel_rfl) ?_
            clear ca3 cb3 ca2 cb2 hHeld
            go_wp2
            go_roundw
            case rel => exact ⟨k + 1, by omega, by go_num, HB4, HZ4, ⟨by rw [← HOUT.out (jp + 1) (srt_low lt S HLT.out p _ HSP.out HSX.out HSRT.out jp hjp (by rw [HZY.out]; exact hlv)) HGT.out]; exact HR4.out⟩⟩
            case measure => first | (simp [intOf]; done) | (simp [intOf]; omega)
    · have hlt1 : decide (((k + 1 : Nat) : Int) < (L.length : Int)) = false := decide_eq_false (by omega)
      go_wp2
      (first | go_end0 | ((try simp only [Exit.inBlock, Exit.then]); refine bodyPost_ret (results_none rfl _ _ _) rfl ?_))
      refine ⟨rfl, HB1.out, ?_⟩
      have h := HRW1.out
      rw [List.take_of_length_le (by omega), List.drop_of_length_le (by omega), List.append_nil] at h
      exact h
set_option maxHeartbeats 8000000 in
theorem stable_calls (g : FuncId) (cb : Array Value) (eg : ∀ args w, (callFunc g args).run Try.prog w = .ok (.enter g args) w) (lt : Value → Value → Bool) (base : Nat) (W0 : World) (B cap : Nat) (L : List Value) (W : World)
    (S : Value → Prop) (hS : ∀ v ∈ L, S v) (hlt : LtOk lt S) (hint : ∀ v, S v → ∃ z, v = .int .i64 z) (hc : CmpAsks Try.prog g cb lt base W0 S) (hb : Below base W0 W) (hbB : base ≤ B) (hrow : ValRow 3 W B cap L) (hsm : L.length ≤ 10) :
    Calls Try.prog 28 #[.slice (some ⟨B, 0, none⟩) L.length cap, .int .i64 (L.length : Int), .func (.func g) #[] cb] W fun e w' => e = .returned (.tuple #[]) ∧ Below base W0 w' ∧ ValRow 3 w' B cap (isortV lt L) := by
  have HI := Aside0.mk (fun W h1 h2 => ins_calls g cb eg lt base W0 B cap L W S hS hlt hint hc h1 hbB h2 (by omega))
  have HB := Aside0.mk hb
  have HR := Aside0.mk hrow
  obtain ⟨n, hn⟩ : ∃ n, n = L.length := ⟨_, rfl⟩
  rw [← hn] at HI hsm ⊢
  have hd1 : decide ((20 : Int) ≤ (n : Int)) = false := decide_eq_false (by omega)
  have hd2 : decide ((20 : Int) < (n : Int)) = false := decide_eq_false (by omega)
  clear hS hlt hint hc hb hrow eg hn
  go_enter Try.func28, Try.ntmps28
  go_wp2
  go_loopw [7, 8] (fun v7 v8 wr => v7 = .int .i64 0 ∧ v8 = .int .i64 20 ∧ Aside0 (Below base W0 wr) ∧ Aside0 (ValRow 3 wr B cap L)) (fun _ _ _ => 0)
  case atStart => exact ⟨rfl, rfl, HB, HR⟩
  case round =>
    obtain ⟨rfl, rfl, HB1, HR1⟩ := hrel
    go_wp2_with (go_at_call 30; (with_reducible refine (HI.out _ HB1.out HR1.out).mono ?_); rintro e w2 ⟨rfl, hb2, hr2⟩; have HB2 := Aside0.mk hb2; have HR2 := Aside0.mk hr2; clear hb2 hr2)
    go_loopw [6] (fun v6 wr => v6 = .int .i64 20 ∧ Aside0 (Below base W0 wr) ∧ Aside0 (ValRow 3 wr B cap (isortV lt L))) (fun _ _ => 0)
    case atStart => exact ⟨rfl, HB2, HR2⟩
    case round =>
      obtain ⟨rfl, HB3, HR3⟩ := hrel
      go_wp2
      (first | go_end0 | ((try simp only [Exit.inBlock, Exit.then]); refine bodyPost_ret (results_none rfl _ _ _) rfl ?_))
      exact ⟨rfl, HB3.out, HR3.out⟩
set_option maxHeartbeats 8000000 in
theorem sortS_calls (g : FuncId) (cb : Array Value) (eg : ∀ args w, (callFunc g args).run Try.prog w = .ok (.enter g args) w) (lt : Value → Value → Bool) (base : Nat) (W0 : World) (B cap : Nat) (L : List Value) (W : World)
    (S : Value → Prop) (hS : ∀ v ∈ L, S v) (hlt : LtOk lt S) (hint : ∀ v, S v → ∃ z, v = .int .i64 z) (hc : CmpAsks Try.prog g cb lt base W0 S) (hb : Below base W0 W) (hbB : base ≤ B) (hrow : ValRow 3 W B cap L) (hsm : L.length ≤ 10) :
    Calls Try.prog 18 #[.slice (some ⟨B, 0, none⟩) L.length cap, .func (.func g) #[] cb] W fun e w' => e = .returned (.tuple #[]) ∧ Below base W0 w' ∧ ValRow 3 w' B cap (isortV lt L) := by
  have HI := Aside0.mk (stable_calls g cb eg lt base W0 B cap L W S hS hlt hint hc hb hbB hrow hsm)
  clear hS hlt hint hc hb hrow eg
  go_enter Try.func18, Try.ntmps18
  go_wp2_with (go_at_call 28; (with_reducible refine HI.out.mono ?_); rintro e w2 ⟨rfl, hb2, hr2⟩; have HB2 := Aside0.mk hb2; have HR2 := Aside0.mk hr2; clear hb2 hr2)
  (first | go_end0 | ((try simp only [Exit.inBlock, Exit.then]); refine bodyPost_ret (results_none rfl _ _ _) rfl ?_))
  exact ⟨rfl, HB2.out, HR2.out⟩
theorem insV_map {α β : Type} (f : α → β) (lt : α → α → Bool) (lt' : β → β → Bool) (h : ∀ a b, lt' (f a) (f b) = lt a b) (x : α) : ∀ l : List α, insV lt' (f x) (l.map f) = (insV lt x l).map f
  | [] => rfl
  | y :: r => by
    show (if lt' (f x) (f y) = true then f x :: f y :: r.map f else f y :: insV lt' (f x) (r.map f)) = (if lt x y = true then x :: y :: r else y :: insV lt x r).map f
    rw [h, insV_map f lt lt' h x r]
    split <;> rfl
theorem isortV_map {α β : Type} (f : α → β) (lt : α → α → Bool) (lt' : β → β → Bool) (h : ∀ a b, lt' (f a) (f b) = lt a b) (l : List α) : isortV lt' (l.map f) = (isortV lt l).map f := by
  refine snoc_ind (p := fun l => isortV lt' (l.map f) = (isortV lt l).map f) rfl (fun l x ih => ?_) l
  rw [List.map_append, List.map_cons, List.map_nil, isortV_snoc, isortV_snoc, ih, insV_map f lt lt' h]
def valI : Value → Int
  | .int _ z => z
  | _ => 0
/-- Born earlier. -/
def olderI (l : List S36) (a b : Int) : Bool := decide (dkey (rd_T36 l a) < dkey (rd_T36 l b))
def olderV (l : List S36) (x y : Value) : Bool := olderI l (valI x) (valI y)
def idxL (n : Nat) : List Int := (List.range n).map fun i : Nat => (i : Int)
theorem idxL_len (n : Nat) : (idxL n).length = n := by simp [idxL]
theorem idxL_succ (n : Nat) : idxL (n + 1) = idxL n ++ [(n : Int)] := by simp [idxL, List.range_succ]
/-- All who are older ahead, equal ones as they came. -/
def olderL (l : List S36) : List Int := isortV (olderI l) (idxL l.length)
theorem own_ints {w : World} {base : Nat} {ok : Nat → Prop} {v : Value} {xs : List Int} (hn : 0 < xs.length) (h : (Kd.int .i64).R 3 w base ok v xs) : ∃ g cap, v = .slice (some ⟨g, 0, none⟩) xs.length cap ∧ base ≤ g ∧ ValRow 3 w g cap (xs.map (Value.int .i64)) := by
  have ho := Kd.own_of_R h
  rcases ho.2 with ⟨rfl, e⟩ | ⟨g, cap, cur, e, hb, hg, hnc, hcm, hsz, htk⟩
  · omega
  · rw [Nat.mul_one] at htk
    exact ⟨g, cap, e, hb, cur, hg, by rw [hsz, Nat.mul_one], hcm, by rw [List.length_map]; exact hnc, by rw [List.length_map]; exact htk⟩
theorem ValRow.to_R {W : World} {g cap base : Nat} {l : List Int} (h : ValRow 3 W g cap (l.map (Value.int .i64))) (hb : base ≤ g) : (Kd.int .i64).R 3 W base (fun _ => True) (.slice (some ⟨g, 0, none⟩) l.length cap) l := by
  obtain ⟨cur, h1, h2, h3, h4, h5⟩ := h
  rw [List.length_map] at h4 h5
  exact Kd.R_of_own ⟨by simp [encs], .inr ⟨g, cap, cur, rfl, hb, h1, h4, h3, by rw [h2, Nat.mul_one], by rw [Nat.mul_one]; exact h5⟩⟩ (fun _ _ => trivial)
theorem olderV_ok (l : List S36) (S : Value → Prop) : LtOk (olderV l) S := by
  constructor
  · intro a b x _ _ _ h1 h2
    unfold olderV olderI at *
    have h1 := of_decide_eq_false h1
    have h2 := of_decide_eq_false h2
    exact decide_eq_false (by omega)
  · intro a b _ _ h
    unfold olderV olderI at *
    have h := of_decide_eq_true h
    exact decide_eq_false (by omega)
def impl_OlderOf.f (l : List S36) : Option (List Int × Bool) := if (decide (1 ≤ l.length ∧ l.length ≤ 8) && l.all dateOk) = true then some (olderL l, true) else some ([], false)
set_option maxHeartbeats 8000000 in
theorem impl_OlderOf.calls (A0 : Option Addr) (c0 : Nat) (l0 : List (S36)) (r1 : List Int) (r2 : Bool) (W : World) (hr0 : Kd.C k36 W A0 l0.length l0) (hc0 : l0.length ≤ c0) (h : impl_OlderOf.f l0 = some (r1, r2)) :
    Calls Try.prog 7 #[.slice A0 l0.length c0] W fun e w' => ∃ v0_ : Value, e = .returned (.tuple #[v0_, .bool r2]) ∧ Kd.R (Kd.int .i64) 3 w' W.heap.size (fun _ => True) v0_ r1 ∧ Below W.heap.size W w' := by
  unfold impl_OlderOf.f at h
  have HC0 := Aside0.mk hr0
  have HA := Aside0.mk (fun w hr => impl_AreBirthDates.calls A0 c0 l0 _ w hr hc0 rfl)
  cases hg : (decide (1 ≤ l0.length ∧ l0.length ≤ 8) && l0.all dateOk) with
  | false =>
    rw [hg] at HA
    rw [hg, if_neg (by simp)] at h
    simp only [Option.some.injEq, Prod.mk.injEq] at h
    obtain ⟨rfl, rfl⟩ := h
    clear hr0 hg
    go_enter Try.func7, Try.ntmps7
    go_wp2_with (go_at_call 17; (with_reducible refine (HA.out _ (by repeat (first | exact HC0.out | refine Kd.C_alloc ?_ _ | refine Kd.C_drewN ?_ _))).mono ?_); rintro e w' ⟨rfl, hb⟩; have HB := Aside0.mk hb; clear hb)
    go_ret2
    exact ⟨_, rfl, Kd.R_nil _ _ _ _ _, below_then ((Below.refl _ _).alloc (by simp) _) (by simp) HB.out⟩
  | true =>
    rw [hg] at HA
    rw [hg, if_pos rfl] at h
    simp only [Option.some.injEq, Prod.mk.injEq] at h
    obtain ⟨h, rfl⟩ := h
    obtain ⟨hn, hok⟩ := Bool.and_eq_true_iff.1 hg
    have hn := of_decide_eq_true hn
    have HOK := Aside0.mk (show ∀ x ∈ l0, DOk x from fun x hx => by
      have h := List.all_eq_true.1 hok x hx
      unfold dateOk at h
      have h := of_decide_eq_true h
      exact h)
    have HR := Aside0.mk h
    clear hr0 hg h hok
    go_enter Try.func7, Try.ntmps7
    obtain ⟨W1, hW1⟩ : ∃ W1 : World, W1 = W.alloc (.cells #[.slice A0 l0.length c0] 27) := ⟨_, rfl⟩
    have HW1 := Aside0.mk hW1
    have HC1 := Aside0.mk (show Kd.C k36 W1 A0 l0.length l0 by rw [hW1]; exact Kd.C_alloc HC0.out _)
    have HP1 := Aside0.mk (show W1.heap[W.heap.size]? = some (.cells #[.slice A0 l0.length c0] 27 (0, 0)) by rw [hW1]; exact heap_alloc_new W _)
    have HZ1 := Aside0.mk (show W1.heap.size = W.heap.size + 1 by rw [hW1]; simp)
    clear hW1
    go_wp2_with (first | (go_at_call 17; (with_reducible refine (HA.out _ (by repeat (first | exact HC0.out | refine Kd.C_alloc ?_ _ | refine Kd.C_drewN ?_ _))).mono ?_); rintro e w2 ⟨rfl, hb⟩; have HB := Aside0.mk (show Below W1.heap.size W1 w2 by rw [HW1.out]; exact hb); have hcp : w2.cell? ⟨W.heap.size, 0, none⟩ = some (.slice A0 l0.length c0) := (blk_cell ((HB.out.block _ (by rw [HZ1.out]; omega)).trans HP1.out) 0).trans rfl; clear hb) | ((with_reducible refine gate_dst (N := 9) rfl ?_); refine Kd.R_lit (Kd.int .i64) _ 3 ?hg (N := 9) ?hd (xs := ([] : List Int)) (inner := []) (ok := fun _ => True) (okp := fun _ => True) ?hr ?hp (fun _ hk => hk) trivial (Below.refl _ _) (Nat.le_refl _) (by simp) ?_; (case hd => rfl); (case hg => rfl); (case hr => first | (go_simp; done) | (go_simp; rfl)); (case hp => exact (Reps.none _ _)); intro v3 w3 ho4 hb hg_ hnew_; clear hg_ hnew_; have HO := Aside0.mk (Kd.R_lower ho4 HB.out.size); have HB1 := Aside0.mk (show Below W1.heap.size W1 w3 from below_step HB.out hb); have hcp3 : w3.cell? ⟨W.heap.size, 0, none⟩ = some (.slice A0 l0.length c0) := (hb.cell (World.block_lt_of_cell? w2 _ hcp)).trans hcp; clear ho4 hb))
    go_loopw [4, 12] (fun v4 v12 wr => ∃ k : Nat, k ≤ l0.length ∧ v12 = .int .i64 (k : Int) ∧ Aside0 ((Kd.int .i64).R 3 wr W1.heap.size (fun _ => True) v4 (idxL k)) ∧ Aside0 (Below W1.heap.size W1 wr)) (fun _ v12 _ => l0.length - (intOf v12).toNat)
    case atStart => exact ⟨0, Nat.zero_le _, rfl, HO, HB1⟩
    case round =>
      obtain ⟨k, hk, rfl, HOk, HBk⟩ := hrel
      by_cases hlt : k < l0.length
      · have hlt1 : decide ((k : Int) < (l0.length : Int)) = true := decide_eq_true (by omega)
        have hil := idxL_len k
        obtain ⟨il, hil2⟩ : ∃ il, il = idxL k := ⟨_, rfl⟩
        have HIX := Aside0.mk (show idxL (k + 1) = il ++ [(k : Int)] by rw [idxL_succ, hil2])
        rw [← hil2] at HOk hil
        obtain ⟨Ao, co, rfl⟩ := Kd.R_slice HOk.out
        clear hil2
        go_wp2_with ((with_reducible refine gate_builtin (b := .append) (xs := #[.tmp 15, .tmp 17]) rfl ?_); at_builtin; refine Kd.R_append (Kd.int .i64) (w0 := W1) W1.heap.size rfl (.tmp 15) (.tmp 17) 24 3 (.int .i64 0) 8 rfl Try.underlying24 info3 rfl (by decide) (by omega) _ il (k : Int) [.int .i64 (k : Int)] (fun _ => True) (fun _ => False) rfl rfl ?aP (fun _ hk => hk.elim) ?aF ?aO ?aB ?aS ?aL ?_; (case aP => exact rfl); (case aB => exact HBk.out); (case aF => exact fun _ _ => trivial); (case aO => exact HOk.out); (case aS => exact HBk.out.size); (case aL => omega); intro v5 w5 ho hb hg hat; have HO5 := Aside0.mk ho; have HB5 := Aside0.mk hb; clear ho hb hg hat)
        go_roundw
        case rel => exact ⟨k + 1, by omega, by go_num, ⟨by rw [HIX.out]; exact HO5.out⟩, HB5⟩
        case measure => simp [intOf]; omega
      · obtain rfl : k = l0.length := by omega
        have hlt1 : decide ((l0.length : Int) < (l0.length : Int)) = false := decide_eq_false (by omega)
        obtain ⟨g, cap, rfl, hgb, hrow⟩ := own_ints (by rw [idxL_len]; omega) HOk.out
        have HRW := Aside0.mk hrow
        have hll : (idxL l0.length).length = l0.length := idxL_len _
        have hlm : ((idxL l0.length).map (Value.int .i64)).length = l0.length := by rw [List.length_map]; exact hll
        have HSORT := Aside0.mk (fun w h1 h2 => sortS_calls 19 #[.pointer (some ⟨W.heap.size, 0, none⟩)] (enters_ Try.func19 (by kernel_rfl) rfl) (olderV l0) W1.heap.size W1 g cap ((idxL l0.length).map (Value.int .i64)) w
          (fun v => ∃ i : Nat, i < l0.length ∧ v = .int .i64 (i : Int))
          (fun v hv => by
            obtain ⟨z, hz, rfl⟩ := List.mem_map.1 hv
            unfold idxL at hz
            obtain ⟨i, hi, rfl⟩ := List.mem_map.1 hz
            exact ⟨i, List.mem_range.1 hi, rfl⟩)
          (olderV_ok l0 _) (fun v ⟨i, _, e⟩ => ⟨i, e⟩)
          (fun W' x y hx hy hb' hz' => by
            obtain ⟨i, hi, rfl⟩ := hx
            obtain ⟨j, hj, rfl⟩ := hy
            refine (cl_calls W.heap.size A0 c0 l0 W' ((hb'.block _ (by rw [HZ1.out]; omega)).trans HP1.out) (Kd.C_below HC1.out hb') HOK.out i j hi hj).mono ?_
            rintro e w' ⟨rfl, hb2⟩
            refine ⟨_, rfl, ?_, hb2⟩
            unfold olderV olderI valI
            rw [rdT_nat l0 i hi, rdT_nat l0 j hj]
            by_cases hd : dkey l0[i] < dkey l0[j]
            · rw [decide_eq_true hd]; exact decide_eq_true (by omega)
            · rw [decide_eq_false hd]; exact decide_eq_false (by omega))
          h1 hgb h2 (by omega))
        rw [hlm] at HSORT
        rw [hll]
        have hcpr : wr.cell? ⟨W.heap.size, 0, none⟩ = some (.slice A0 l0.length c0) := (blk_cell ((HBk.out.block _ (by rw [HZ1.out]; omega)).trans HP1.out) 0).trans rfl
        have HGB := Aside0.mk hgb
        clear hrow hll hlm hgb
        go_wp2_with (go_at_call 18; (with_reducible refine (HSORT.out _ HBk.out HRW.out).mono ?_); rintro e w6 ⟨rfl, hb6, hr6⟩; have HB6 := Aside0.mk hb6; have HR6 := Aside0.mk hr6; clear hb6 hr6)
        go_ret2
        have hr := HR6.out
        rw [isortV_map (Value.int .i64) (olderI l0) (olderV l0) (fun a b => rfl)] at hr
        have hfin := hr.to_R (base := W.heap.size) (by have := HZ1.out; have := HGB.out; omega)
        have hL : (isortV (olderI l0) (idxL l0.length)).length = l0.length := by rw [isortV_len, idxL_len]
        rw [hL] at hfin
        refine ⟨_, rfl, ?_, ?_⟩
        · rw [← HR.out]
          exact hfin
        · have h6 := HB6.out
          rw [HW1.out] at h6
          exact below_then ((Below.refl _ _).alloc (Nat.le_refl _) _) (by simp) h6

end Go.Proofs.Ytfkdkikodoingaa.E
