-- WRITTEN by xprint.py, a program of this session that drives the kit's printer: out of the translation. Lean checks it.
import Derived.Test.YtebidfogkjidaaaE0
import Derived.Test.YtebidfogkjidaaaE3
import Derived.Test.YtebidfogkjidaaaE7
import Derived.Test.YtebidfogkjidaaaWMore
namespace Go.Proofs.Ytebidfogkjidaaa.E
open Go.RowKit Go.Proofs.YtebidfogkjidaaaW.PrintWords Go.Proofs.YtebidfogkjidaaaW.PrintLast Go.Proofs.YtebidfogkjidaaaW.PrintMore
attribute [local go_sem] max2_int min2_int max_two min_two max_three min_three max_four min_four   -- for this text's walks alone
set_option linter.unusedVariables false
set_option linter.unusedSimpArgs false

-- OURS, BY HAND
/-! ### slices_DeleteFunc_int_int: function 45 -/
-- func slices.DeleteFunc[[][]int,[]int]
-- ext raw=1
-- needs laws.markIntSS
-- needs impl.sets
-- import Derived.Lib.SliceRun
-- import Derived.WalkSpells
-- seat Ytebidfogkjidaaa
/-- The headers of a list's rows lie in cells, the rows are read. -/
def Heads (W : World) (cur : Array Value) (xs : List (List Int)) : Prop :=
  ∀ (j : Nat) (x : List Int), xs[j]? = some x → Ages x ∧ x.length ≤ 4 ∧ ∃ A c, cur[j]? = some (.slice A x.length c) ∧ x.length ≤ c ∧ (Kd.int .i64).C W A x.length x
theorem add_at (g i : Nat) : (⟨g, 0, none⟩ : Addr).add i = ⟨g, i, none⟩ := by
  by_cases h : i = 0
  · subst h; rfl
  · simp [Addr.add, h]
def firstDel (D : List Int → Bool) : List (List Int) → Nat → Int
  | [], _ => -1
  | x :: xs, i => if D x = true then (i : Int) else firstDel D xs (i + 1)
theorem grown_refl (w : World) (g : Nat) : w.grownBy w (some g) := ⟨rfl, rfl, rfl, Nat.le_refl _, fun _ _ _ => rfl⟩
theorem grown_set {w w1 : World} {g : Nat} (h : w.grownBy w1 (some g)) (i : Nat) (u : Value) : w.grownBy (w1.setCell ⟨g, i, none⟩ u) (some g) := by
  have hb := Below.setCell (B := 0) (p := ⟨g, i, none⟩) (Below.refl 0 w1) (Nat.zero_le _) u
  exact ⟨hb.os.trans h.os, hb.tape.trans h.tape, hb.output.trans h.output, Nat.le_trans h.size hb.size, fun k hk hne => (Below.heap_setCell w1 ⟨g, i, none⟩ u k (fun e => hne (by rw [e]))).trans (h.block k hk hne)⟩
theorem grown_drewN {w w1 : World} {g : Nat} (h : w.grownBy w1 (some g)) (n : Nat) : w.grownBy (w1.drewN n) (some g) := by
  have hb := pw_below_drewN (Below.refl 0 w1) n
  exact ⟨hb.os.trans h.os, hb.tape.trans h.tape, hb.output.trans h.output, Nat.le_trans h.size hb.size, fun k hk hne => h.block k hk hne⟩
theorem setCells_keeps {w : World} {g : Nat} : ∀ (vs : List Value) (o : Nat) (w1 : World) (c1 : Array Value), w.grownBy w1 (some g) → w1.heap[g]? = some (.cells c1 31 (0, 0)) →
    w.grownBy (w1.setCells g o vs) (some g) ∧ ∃ c2 : Array Value, (w1.setCells g o vs).heap[g]? = some (.cells c2 31 (0, 0)) ∧ c2.size = c1.size ∧ ∀ m, m < o → c2[m]? = c1[m]?
  | [], o, w1, c1, h, hc => ⟨h, c1, hc, rfl, fun _ _ => rfl⟩
  | v :: vs, o, w1, c1, h, hc => by
    obtain ⟨h1, c2, h2, h3, h4⟩ := setCells_keeps vs (o + 1) (w1.setCell ⟨g, o, none⟩ v) (c1.setIfInBounds o v) (grown_set h o v) (blk_set hc o v)
    refine ⟨h1, c2, h2, by rw [h3]; simp, fun m hm => ?_⟩
    rw [h4 m (by omega), Array.getElem?_setIfInBounds, if_neg (by omega)]
/-- The places of the rows that stay, of the first j. -/
def stayAt (D : List Int → Bool) (xs : List (List Int)) (j : Nat) : List Nat := (List.range j).filter fun q => !D (xs.getD q [])
theorem stayAt_succ (D : List Int → Bool) (xs : List (List Int)) (j : Nat) : stayAt D xs (j + 1) = stayAt D xs j ++ if D (xs.getD j []) = true then [] else [j] := by
  unfold stayAt
  rw [List.range_succ, List.filter_append]
  congr 1
  rw [List.filter_cons, List.filter_nil]
  cases h : D (xs.getD j []) <;> rfl
theorem stayAt_len (D : List Int → Bool) (xs : List (List Int)) (j : Nat) : (stayAt D xs j).length ≤ j := by
  unfold stayAt
  have := List.length_filter_le (fun q => !D (xs.getD q [])) (List.range j)
  simpa using this
structure Moved (D : List Int → Bool) (xs : List (List Int)) (cur c1 : Array Value) (i j : Nat) : Prop where
  size : c1.size = cur.size
  len : i = (stayAt D xs j).length
  head : ∀ m, m < i → ∃ q, (stayAt D xs j)[m]? = some q ∧ c1[m]? = cur[q]?
  rest : ∀ m, j ≤ m → c1[m]? = cur[m]?
theorem Moved.skip {D : List Int → Bool} {xs : List (List Int)} {cur c1 : Array Value} {i j : Nat} (h : Moved D xs cur c1 i j) (hd : D (xs.getD j []) = true) : Moved D xs cur c1 i (j + 1) := by
  have e : stayAt D xs (j + 1) = stayAt D xs j := by rw [stayAt_succ, if_pos hd, List.append_nil]
  exact ⟨h.size, by rw [e]; exact h.len, by rw [e]; exact h.head, fun m hm => h.rest m (by omega)⟩
theorem Moved.keep {D : List Int → Bool} {xs : List (List Int)} {cur c1 : Array Value} {i j : Nat} (h : Moved D xs cur c1 i j) (hd : D (xs.getD j []) = false) {u : Value} (hu : cur[j]? = some u) : Moved D xs cur (c1.setIfInBounds i u) (i + 1) (j + 1) := by
  have e : stayAt D xs (j + 1) = stayAt D xs j ++ [j] := by rw [stayAt_succ, if_neg (by rw [hd]; simp)]
  have hij : i ≤ j := by rw [h.len]; exact stayAt_len D xs j
  have hjc : j < cur.size := (Array.getElem?_eq_some_iff.1 hu).1
  refine ⟨by simp [h.size], by rw [e, List.length_append, ← h.len]; rfl, fun m hm => ?_, fun m hm => ?_⟩
  · by_cases hmi : m = i
    · subst hmi
      refine ⟨j, ?_, ?_⟩
      · rw [e, List.getElem?_append_right (by rw [← h.len]; exact Nat.le_refl _), ← h.len]; simp
      · rw [Array.getElem?_setIfInBounds, if_pos rfl, if_pos (by rw [h.size]; omega), hu]
    · obtain ⟨q, h1, h2⟩ := h.head m (by omega)
      refine ⟨q, ?_, ?_⟩
      · rw [e, List.getElem?_append_left (by rw [← h.len]; omega)]; exact h1
      · rw [Array.getElem?_setIfInBounds, if_neg (by omega)]; exact h2
  · rw [Array.getElem?_setIfInBounds, if_neg (by omega)]
    exact h.rest m (by omega)
theorem firstDel_spec (D : List Int → Bool) : ∀ (xs : List (List Int)) (i : Nat), (firstDel D xs i = -1 ∧ ∀ j, j < xs.length → D (xs.getD j []) = false) ∨ ∃ k, k < xs.length ∧ firstDel D xs i = ((i + k : Nat) : Int) ∧ D (xs.getD k []) = true ∧ ∀ j, j < k → D (xs.getD j []) = false
  | [], _ => .inl ⟨rfl, fun j hj => absurd hj (Nat.not_lt_zero _)⟩
  | x :: xs, i => by
    cases h : D x with
    | true => exact .inr ⟨0, by simp, by simp [firstDel, h], by simpa using h, fun j hj => absurd hj (Nat.not_lt_zero _)⟩
    | false =>
      rcases firstDel_spec D xs (i + 1) with ⟨e, ha⟩ | ⟨k, hk, e, ht, ha⟩
      · refine .inl ⟨by simp [firstDel, h, e], fun j hj => ?_⟩
        cases j with
        | zero => simpa using h
        | succ j => simpa using ha j (by simpa using hj)
      · refine .inr ⟨k + 1, by simpa using hk, ?_, by simpa using ht, fun j hj => ?_⟩
        · simp only [firstDel, h]
          rw [if_neg (by simp), e]
          congr 1
          omega
        · cases j with
          | zero => simpa using h
          | succ j => simpa using ha j (by omega)
theorem stayAt_all (D : List Int → Bool) (xs : List (List Int)) (k : Nat) (h : ∀ j, j < k → D (xs.getD j []) = false) : stayAt D xs k = List.range k := by
  unfold stayAt
  exact List.filter_eq_self.2 (fun j hj => by rw [h j (List.mem_range.1 hj)]; rfl)
theorem moved_start (D : List Int → Bool) (xs : List (List Int)) (cur : Array Value) (k : Nat) (h : ∀ j, j < k → D (xs.getD j []) = false) : Moved D xs cur cur k k := by
  have e := stayAt_all D xs k h
  refine ⟨rfl, by rw [e]; simp, fun m hm => ⟨m, by rw [e]; simp [hm], rfl⟩, fun _ _ => rfl⟩
theorem zero43 : ∀ w, (zeroValue 31).run Try.prog w = .ok (.slice none 0 0) w := by
  intro w
  kernel_rfl
/-- A row of numbers stays where the list's own block alone is written. -/
theorem row_grown {w w1 : World} {g base : Nat} {cur : Array Value} {u : Value} {x : List Int} (hR : (Kd.int .i64).R 3 w base (fun _ => True) u x) (hg : w.heap[g]? = some (.cells cur 31 (0, 0))) (h : w.grownBy w1 (some g)) : (Kd.int .i64).R 3 w1 base (fun _ => True) u x :=
  Kd.R_mono (Kd.R_grown (Kd.R_types hR hg (by decide)) h (fun k hk e => hk.2 (Option.some.inj e))) (fun _ _ => trivial)
theorem Sep.heads {w w1 : World} {g base n cap : Nat} {cur : Array Value} {us : List Value} {xs : List (List Int)} (hS : Sep w base (.slice (some ⟨g, 0, none⟩) n cap) us xs) (hg : w.heap[g]? = some (.cells cur 31 (0, 0))) (hcu : ∀ j, j < us.length → cur[j]? = us[j]?)
    (ha : ∀ x ∈ xs, Ages x ∧ x.length ≤ 4) (h : w.grownBy w1 (some g)) : Heads w1 cur xs := by
  intro j x hx
  have hj : j < xs.length := (List.getElem?_eq_some_iff.1 hx).1
  have hju : j < us.length := by rw [hS.len]; exact hj
  have hu := List.getElem?_eq_getElem hju
  have hR := row_grown (hS.inn j us[j] x hu hx) hg h
  obtain ⟨A, c, e⟩ := Kd.R_slice hR
  have hm := ha x (List.mem_of_getElem? hx)
  rw [e] at hR
  obtain ⟨_, h2, h3⟩ := Kd.R_reads' hR
  exact ⟨hm.1, hm.2, A, c, by rw [hcu j hju, hu, e], h2, h3⟩
theorem stayAt_nodup (D : List Int → Bool) (xs : List (List Int)) (j : Nat) : (stayAt D xs j).Nodup := List.Pairwise.filter _ List.nodup_range
theorem stayAt_lt (D : List Int → Bool) (xs : List (List Int)) (j q : Nat) (h : q ∈ stayAt D xs j) : q < j := List.mem_range.1 (List.mem_filter.1 h).1
theorem stay_filter (D : List Int → Bool) (xs : List (List Int)) : (stayAt D xs xs.length).map (fun q => xs.getD q []) = xs.filter fun x => !D x := by
  have key : (List.range xs.length).map (fun q => xs.getD q []) = xs := by
    apply List.ext_getElem
    · simp
    · intro i h1 h2
      simp [List.getD, List.getElem?_eq_getElem h2]
  conv => rhs; rw [← key]
  rw [List.filter_map]
  rfl
theorem Sep.stays {D : List Int → Bool} {w w1 : World} {g base n cap : Nat} {cur c1 : Array Value} {us : List Value} {xs : List (List Int)} (hS : Sep w base (.slice (some ⟨g, 0, none⟩) n cap) us xs) (hb : base ≤ g) (hg : w.heap[g]? = some (.cells cur 31 (0, 0))) (hcu : ∀ j, j < us.length → cur[j]? = us[j]?)
    (hcap : xs.length ≤ cap) (hcm : cap ≤ maxLen) (h : w.grownBy w1 (some g)) (h1 : w1.heap[g]? = some (.cells c1 31 (0, 0))) (h2 : c1.size = cap) (h3 : ∀ m, m < (stayAt D xs xs.length).length → ∃ q, (stayAt D xs xs.length)[m]? = some q ∧ c1[m]? = cur[q]?) :
    ∃ us', Sep w1 base (.slice (some ⟨g, 0, none⟩) (stayAt D xs xs.length).length cap) us' (xs.filter fun x => !D x) := by
  have hlen : (xs.filter fun x => !D x).length = (stayAt D xs xs.length).length := by rw [← stay_filter]; simp
  have hk := stayAt_len D xs xs.length
  have at_ : ∀ (m : Nat) (u : Value), (c1.toList.take (stayAt D xs xs.length).length)[m]? = some u → ∃ q, (stayAt D xs xs.length)[m]? = some q ∧ us[q]? = some u := by
    intro m u hu
    have hm : m < (stayAt D xs xs.length).length := by
      have := (List.getElem?_eq_some_iff.1 hu).1
      rw [List.length_take] at this
      omega
    obtain ⟨q, q1, q2⟩ := h3 m hm
    rw [List.getElem?_take, if_pos hm, Array.getElem?_toList, q2] at hu
    have hq := stayAt_lt D xs _ q (List.mem_of_getElem? q1)
    exact ⟨q, q1, by rw [← hcu q (by rw [hS.len]; exact hq)]; exact hu⟩
  refine ⟨c1.toList.take (stayAt D xs xs.length).length, ⟨?_, ?_, ?_, ?_⟩⟩
  · have hl : (c1.toList.take (stayAt D xs xs.length).length).length = (stayAt D xs xs.length).length := by rw [List.length_take]; simp; omega
    rw [hl]
    refine ⟨by rw [hl, Nat.mul_one], .inr ⟨g, cap, c1, rfl, hb, h1, by omega, hcm, by rw [h2, Nat.mul_one], by rw [Nat.mul_one]⟩⟩
  · rw [hlen, List.length_take]; simp; omega
  · intro m u x hu hx
    obtain ⟨q, q1, q2⟩ := at_ m u hu
    rw [← stay_filter, List.getElem?_map, q1] at hx
    have hq := stayAt_lt D xs _ q (List.mem_of_getElem? q1)
    have hx2 : xs[q]? = some x := by
      simp only [Option.map_some, Option.some.injEq] at hx
      rw [List.getElem?_eq_getElem hq, ← hx]
      simp [List.getD, List.getElem?_eq_getElem hq]
    exact row_grown (hS.inn q u x q2 hx2) hg h
  · intro i j u u' k hu hu' hk1 hk2
    obtain ⟨q, q1, q2⟩ := at_ i u hu
    obtain ⟨q', q1', q2'⟩ := at_ j u' hu'
    have e := hS.dis q q' u u' k q2 q2' hk1 hk2
    subst e
    have hi := (List.getElem?_eq_some_iff.1 q1).1
    exact (List.getElem?_inj hi (stayAt_nodup D xs _)).1 (q1.trans q1'.symm)
theorem allSets_ages (n : Nat) : ∀ (l s : List Int), Ages l → s ∈ allSets n l → Ages s ∧ s.length = l.length + n := by
  induction n with
  | zero =>
    intro l s hl hs
    obtain rfl : s = l := by simpa [allSets] using hs
    exact ⟨hl, rfl⟩
  | succ n ih =>
    intro l s hl hs
    have hf := hl.from_
    simp only [allSets, List.mem_flatten, List.mem_map, List.mem_range] at hs
    obtain ⟨_, ⟨i, hi, rfl⟩, hs⟩ := hs
    obtain ⟨h1, h2⟩ := ih _ s (hl.snoc (by omega) (by omega)) hs
    exact ⟨h1, by rw [h2]; simp; omega⟩
theorem Sep.to_S {w : World} {base : Nat} {v : Value} {us : List Value} {xs : List (List Int)} (h : Sep w base v us xs) : Kd.S (Kd.slice 3 (Kd.int .i64)) 31 w base (fun _ => True) v xs := by
  classical
  let f : Nat → Nat := fun k => if hk : ∃ (j : Nat) (u : Value), us[j]? = some u ∧ u.ownBlock = some k then hk.choose else 0
  have hf : ∀ j u k, us[j]? = some u → u.ownBlock = some k → f k = j := by
    intro j u k hu hk
    have hex : ∃ (j : Nat) (u : Value), us[j]? = some u ∧ u.ownBlock = some k := ⟨j, u, hu, hk⟩
    show (if hk : ∃ (j : Nat) (u : Value), us[j]? = some u ∧ u.ownBlock = some k then hk.choose else 0) = j
    rw [dif_pos hex]
    obtain ⟨u', h1, h2⟩ := hex.choose_spec
    exact h.dis _ _ u' u k h1 hu h2 hk
  refine ⟨f, fun _ _ => trivial, us, ?_, ?_, ?_⟩
  · rw [List.length_zipIdx, ← h.len]; exact h.row
  · rw [List.length_zipIdx, ← h.len]; exact (Nat.mul_one _).symm
  · rintro j ⟨x, i⟩ hx
    have hz := List.getElem?_zipIdx (l := xs) (i := 0) (j := j)
    rw [hx] at hz
    obtain ⟨y, hy, e⟩ := Option.map_eq_some_iff.1 hz.symm
    simp only [Prod.mk.injEq, Nat.zero_add] at e
    obtain ⟨rfl, rfl⟩ := e
    have hj : j < us.length := by rw [h.len]; exact (List.getElem?_eq_some_iff.1 hy).1
    have hu := List.getElem?_eq_getElem hj
    have hty : ∀ k, v.ownBlock = some k → ∃ cells, w.heap[k]? = some (.cells cells 31 (0, 0)) := by
      intro k hk
      rcases h.row.2 with ⟨e, _⟩ | ⟨g, cap, cur, e, _, hc, _⟩
      · rw [e] at hk; cases hk
      · rw [e] at hk
        obtain rfl : g = k := Option.some.inj hk
        exact ⟨cur, hc⟩
    have hR0 := Kd.R_apart' (h.inn j _ _ hu hy) hty (by decide)
    have hR := Kd.R_tight (d := Kd.int .i64) rfl hR0
    exact ⟨us[j], take_drop_one us j hu, Kd.R_mono hR (fun k hk => ⟨⟨trivial, (hR0.1 k hk.symm).2⟩, hf j _ k hu hk.symm⟩)⟩
/-- Values of one cell, as they are. -/
def rawKd : Kd Value where
  sz := 1
  E := []
  K := fun _ u cs => cs = [u] ∧ u.oneCell' = true
  M := fun _ _ _ u cs => cs = [u] ∧ u.oneCell' = true
  K_len := by rintro w x cs ⟨rfl, _⟩; rfl
  K_one := by
    rintro w x cs ⟨rfl, h⟩ u hu
    rw [List.mem_singleton.1 hu]
    exact h
  K_below := fun _ h => h
  K_of_M := fun h => h
  M_mono := fun _ h => h
  M_bound := fun h => h
  M_move := fun _ h => h
  M_lower := fun _ h => h
set_option maxHeartbeats 8000000 in
set_option maxRecDepth 100000 in
theorem cloneRows.calls (A0 : Option Addr) (c0 : Nat) (l0 : List Value) (r : List Value) (w : World) (hr0 : Kd.C rawKd w A0 l0.length l0) (hc0 : l0.length ≤ c0) (hL : l0.length < 5000000000000) (hlr : l0 = r) :
    Calls Try.prog 59 #[.slice A0 l0.length c0] w fun e w' => ∃ v0_ : Value, e = .returned (v0_) ∧ Kd.R rawKd 31 w' w.heap.size (fun _ => True) v0_ r ∧ Below w.heap.size w w' := by
  subst hlr
  have HB := Aside0.mk (Below.refl w.heap.size w)
  have HL := Aside0.mk hL
  clear hL
  have q22 : ∀ (w : World) (a : Option Addr) (n c n' c' : Nat), (binOp .eql 25 (.slice a n c) (.slice none n' c')).run Try.prog w = .ok (.bool a.isNone) w := fun w a n c n' c' => Lib.run_eql_slice_nil w _ _ a n c n' c' Try.underlying25
  cases A0 with
  | none =>
    have hn : l0 = [] := by
      cases l0 with
      | nil => rfl
      | cons x l => obtain ⟨ad, e, _⟩ := hr0.2.2 (by simp); cases e
    subst hn
    go_enter Try.func59, Try.ntmps59
    go_wp2
    go_ret
    exact ⟨_, rfl, Kd.R_nil _ _ _ _ _, Below.refl _ _⟩
  | some ad =>
    have HR0 := Aside0.mk hr0
    clear hr0
    go_enter Try.func59, Try.ntmps59
    go_wp2_with (first | ((with_reducible refine gate_dst (N := 5) rfl ?_); refine Kd.R_lit rawKd _ 31 ?hg (N := 5) ?hd (xs := ([] : List Value)) (inner := []) (ok := fun _ => True) (okp := fun _ => True) ?hr ?hp (fun _ hk => hk) trivial (Below.refl _ _) (Nat.le_refl _) (by simp) ?_; (case hd => rfl); (case hg => rfl); (case hr => first | (go_simp; done) | (go_simp; rfl)); (case hp => exact (Reps.none _ _)); intro v198 w3 ho4 hb hg_ hnew_; clear hg_ hnew_; have HO := Aside0.mk (Kd.R_lower ho4 (Nat.le_refl _)); have HB1 := Aside0.mk hb; clear HB ho4 hb) | ((with_reducible refine gate_builtin (b := .append) (xs := #[.tmp 5, .tmp 6]) rfl ?_); at_builtin; refine Kd.R_append_rows rawKd (w0 := w) w.heap.size rfl (.tmp 5) (.tmp 6) 25 31 (.slice none 0 0) 24 rfl Try.underlying25 infoRows rfl (by decide) (by omega) v198 [] l0 _ _ _ (fun _ => True) (fun _ => False) rfl rfl ?aO ?aR (fun _ _ h => h) (fun _ h => h.elim) ?aF ?aB ?aS ?aL ?_; (case aR => exact Kd.C_below HR0.out HB1.out); (case aB => exact HB1.out); (case aF => exact (fun _ _ => trivial)); (case aO => exact HO.out); (case aS => exact HB1.out.size); (case aL => have := HL.out; simp only [List.length_nil]; omega); intro v201 w5 ho hb hg hat; have HO2 := Aside0.mk ho; have HB2 := Aside0.mk hb; clear HB1 HO ho hb hg hat))
    go_ret
    exact ⟨_, rfl, by rw [← List.nil_append l0]; exact HO2.out, HB2.out⟩

theorem reps_raw {w : World} {us inner : List Value} {base : Nat} {ok : Nat → Prop} (h : Reps (rawKd.M w base ok) 1 us inner) : inner = us := by
  have hl : inner.length = us.length := by have := h.1; omega
  apply List.ext_getElem? 
  intro j
  by_cases hj : j < us.length
  · have hu := List.getElem?_eq_getElem hj
    obtain ⟨e, _⟩ := h.2 j us[j] hu
    rw [drop_take_one inner j e, hu]
  · rw [List.getElem?_eq_none (by omega), List.getElem?_eq_none (by omega)]
/-- Headers of rows of a list, laid into a new outer row. -/
theorem Sep.raw {D : List Int → Bool} {w w1 : World} {base b1 : Nat} {ok : Nat → Prop} {v v1 : Value} {us us1 : List Value} {xs : List (List Int)} (hS : Sep w base v us xs) (hb : Below w.heap.size w w1) (hle : base ≤ b1) (hR : Kd.R rawKd 31 w1 b1 ok v1 us1)
    (hu : us1 = (stayAt D xs xs.length).map (fun q => us.getD q (.int .i64 0))) : Sep w1 base v1 us1 (xs.filter fun x => !D x) := by
  obtain ⟨h0, inner, ho, hr⟩ := Kd.R_lower hR hle
  obtain rfl := reps_raw hr
  have hlen : (xs.filter fun x => !D x).length = (stayAt D xs xs.length).length := by rw [← stay_filter]; simp
  have at_ : ∀ (m : Nat) (u : Value), inner[m]? = some u → ∃ q, (stayAt D xs xs.length)[m]? = some q ∧ us[q]? = some u := by
    intro m u hm
    rw [hu, List.getElem?_map] at hm
    obtain ⟨q, q1, q2⟩ := Option.map_eq_some_iff.1 hm
    have hq := stayAt_lt D xs _ q (List.mem_of_getElem? q1)
    rw [← hS.len] at hq
    refine ⟨q, q1, ?_⟩
    rw [← q2]
    simp [List.getD, List.getElem?_eq_getElem hq]
  refine ⟨ho, by rw [hu, hlen]; simp, ?_, ?_⟩
  · intro m u x hm hx
    obtain ⟨q, q1, q2⟩ := at_ m u hm
    rw [← stay_filter, List.getElem?_map, q1] at hx
    have hq := stayAt_lt D xs _ q (List.mem_of_getElem? q1)
    have hx2 : xs[q]? = some x := by
      simp only [Option.map_some, Option.some.injEq] at hx
      rw [List.getElem?_eq_getElem hq, ← hx]
      simp [List.getD, List.getElem?_eq_getElem hq]
    exact Kd.R_below (hS.inn q u x q2 hx2) hb
  · intro i j u u' k hi hj hk1 hk2
    obtain ⟨q, q1, q2⟩ := at_ i u hi
    obtain ⟨q', q1', q2'⟩ := at_ j u' hj
    have e := hS.dis q q' u u' k q2 q2' hk1 hk2
    subst e
    have h1 := (List.getElem?_eq_some_iff.1 q1).1
    exact (List.getElem?_inj h1 (stayAt_nodup D xs _)).1 (q1.trans q1'.symm)
theorem stayAt_none (xs : List (List Int)) (us : List Value) (h : us.length = xs.length) : us = (stayAt (fun _ => false) xs xs.length).map (fun q => us.getD q (.int .i64 0)) := by
  rw [stayAt_all (fun _ => false) xs xs.length (fun _ _ => rfl), ← h]
  apply List.ext_getElem
  · simp
  · intro i h1 h2
    simp [List.getD, List.getElem?_eq_getElem h1]
theorem filter_none (xs : List (List Int)) : (xs.filter fun x => !(fun _ : List Int => false) x) = xs := by simp
/-- The headers are of one cell. -/
theorem Sep.cells {w : World} {base : Nat} {v : Value} {us : List Value} {xs : List (List Int)} (h : Sep w base v us xs) : ∃ A c, v = .slice A us.length c ∧ us.length ≤ c ∧ Kd.C rawKd w A us.length us := by
  have hR : Reps (rawKd.K w) 1 us us := by
    refine ⟨by rw [Nat.mul_one], fun j p hp => ?_⟩
    rw [take_drop_one us j hp]
    have hj : j < xs.length := by rw [← h.len]; exact (List.getElem?_eq_some_iff.1 hp).1
    obtain ⟨A, c, e⟩ := Kd.R_slice (h.inn j p _ hp (List.getElem?_eq_getElem hj))
    exact ⟨rfl, by rw [e]; rfl⟩
  obtain ⟨A, c, hv, hread⟩ := own_reads_row h.row hR rfl
  refine ⟨A, c, hv, ?_, hread⟩
  rcases h.row.2 with ⟨h1, h2⟩ | ⟨g, cap, cur, h1, _, _, h2, _⟩
  · omega
  · rw [h1] at hv
    injection hv with _ h3 h4
    omega

end Go.Proofs.Ytebidfogkjidaaa.E
