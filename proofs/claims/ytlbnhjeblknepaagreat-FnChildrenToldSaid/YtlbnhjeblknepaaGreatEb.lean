import Derived.Test.YtlbnhjeblknepaaGreatE0
import Derived.Test.YtlbnhjeblknepaaGreatEa
import Derived.Test.YtlbnhjeblknepaaGreatWm
-- WRITTEN by xprint.py, a program of this session that drives the kit's printer: out of the translation. Lean checks it.
namespace Go.Proofs.YtlbnhjeblknepaaGreat.E
open Go.RowKit Go.Proofs.YtlbnhjeblknepaaGreatW.PrintWords Go.Proofs.YtlbnhjeblknepaaGreatW.PrintLast Go.Proofs.YtlbnhjeblknepaaGreatW.PrintMore
attribute [local go_sem] max2_int min2_int max_two min_two max_three min_three max_four min_four   -- for this text's walks alone
set_option linter.unusedVariables false
set_option linter.unusedSimpArgs false

-- OURS, BY HAND
/-! ### slices_DeleteFunc_int_int: function 78 -/
-- func slices.DeleteFunc[[][]int,[]int]
-- ext raw=1
-- needs impl.sets
-- seat YtlbnhjeblknepaaGreat
-- import Derived.Lib.SliceRun
-- import Derived.WalkSpells
/-- The headers of a list's rows lie in cells, the rows are read. -/
def Heads (W : World) (cur : Array Value) (xs : List (List Int)) : Prop :=
  ∀ (j : Nat) (x : List Int), xs[j]? = some x → Ages x ∧ x.length ≤ 4 ∧ ∃ A c, cur[j]? = some (.slice A x.length c) ∧ x.length ≤ c ∧ (Kd.int .i64).C W A x.length x
theorem add_at (g i : Nat) : (⟨g, 0, none⟩ : Addr).add i = ⟨g, i, none⟩ := by
  by_cases h : i = 0
  · subst h; rfl
  · simp [Addr.add, h]
def firstDel (D : List Int → Bool) : List (List Int) → Nat → Int
  | [], _ => -1
  | x :: xs, i => if D x = true then (i : Int) else firstDel D xs (i + 1)
theorem grown_refl (w : World) (g : Nat) : w.grownBy w (some g) := ⟨rfl, rfl, rfl, Nat.le_refl _, fun _ _ _ => rfl⟩
theorem grown_set {w w1 : World} {g : Nat} (h : w.grownBy w1 (some g)) (i : Nat) (u : Value) : w.grownBy (w1.setCell ⟨g, i, none⟩ u) (some g) := by
  have hb := Below.setCell (B := 0) (p := ⟨g, i, none⟩) (Below.refl 0 w1) (Nat.zero_le _) u
  exact ⟨hb.os.trans h.os, hb.tape.trans h.tape, hb.output.trans h.output, Nat.le_trans h.size hb.size, fun k hk hne => (Below.heap_setCell w1 ⟨g, i, none⟩ u k (fun e => hne (by rw [e]))).trans (h.block k hk hne)⟩
theorem grown_drewN {w w1 : World} {g : Nat} (h : w.grownBy w1 (some g)) (n : Nat) : w.grownBy (w1.drewN n) (some g) := by
  have hb := pw_below_drewN (Below.refl 0 w1) n
  exact ⟨hb.os.trans h.os, hb.tape.trans h.tape, hb.output.trans h.output, Nat.le_trans h.size hb.size, fun k hk hne => h.block k hk hne⟩
theorem setCells_keeps {w : World} {g : Nat} : ∀ (vs : List Value) (o : Nat) (w1 : World) (c1 : Array Value), w.grownBy w1 (some g) → w1.heap[g]? = some (.cells c1 31 (0, 0)) →
    w.grownBy (w1.setCells g o vs) (some g) ∧ ∃ c2 : Array Value, (w1.setCells g o vs).heap[g]? = some (.cells c2 31 (0, 0)) ∧ c2.size = c1.size ∧ ∀ m, m < o → c2[m]? = c1[m]?
  | [], o, w1, c1, h, hc => ⟨h, c1, hc, rfl, fun _ _ => rfl⟩
  | v :: vs, o, w1, c1, h, hc => by
    obtain ⟨h1, c2, h2, h3, h4⟩ := setCells_keeps vs (o + 1) (w1.setCell ⟨g, o, none⟩ v) (c1.setIfInBounds o v) (grown_set h o v) (blk_set hc o v)
    refine ⟨h1, c2, h2, by rw [h3]; simp, fun m hm => ?_⟩
    rw [h4 m (by omega), Array.getElem?_setIfInBounds, if_neg (by omega)]
/-- The places of the rows that stay, of the first j. -/
def stayAt (D : List Int → Bool) (xs : List (List Int)) (j : Nat) : List Nat := (List.range j).filter fun q => !D (xs.getD q [])
theorem stayAt_succ (D : List Int → Bool) (xs : List (List Int)) (j : Nat) : stayAt D xs (j + 1) = stayAt D xs j ++ if D (xs.getD j []) = true then [] else [j] := by
  unfold stayAt
  rw [List.range_succ, List.filter_append]
  congr 1
  rw [List.filter_cons, List.filter_nil]
  cases h : D (xs.getD j []) <;> rfl
theorem stayAt_len (D : List Int → Bool) (xs : List (List Int)) (j : Nat) : (stayAt D xs j).length ≤ j := by
  unfold stayAt
  have := List.length_filter_le (fun q => !D (xs.getD q [])) (List.range j)
  simpa using this
structure Moved (D : List Int → Bool) (xs : List (List Int)) (cur c1 : Array Value) (i j : Nat) : Prop where
  size : c1.size = cur.size
  len : i = (stayAt D xs j).length
  head : ∀ m, m < i → ∃ q, (stayAt D xs j)[m]? = some q ∧ c1[m]? = cur[q]?
  rest : ∀ m, j ≤ m → c1[m]? = cur[m]?
theorem Moved.skip {D : List Int → Bool} {xs : List (List Int)} {cur c1 : Array Value} {i j : Nat} (h : Moved D xs cur c1 i j) (hd : D (xs.getD j []) = true) : Moved D xs cur c1 i (j + 1) := by
  have e : stayAt D xs (j + 1) = stayAt D xs j := by rw [stayAt_succ, if_pos hd, List.append_nil]
  exact ⟨h.size, by rw [e]; exact h.len, by rw [e]; exact h.head, fun m hm => h.rest m (by omega)⟩
theorem Moved.keep {D : List Int → Bool} {xs : List (List Int)} {cur c1 : Array Value} {i j : Nat} (h : Moved D xs cur c1 i j) (hd : D (xs.getD j []) = false) {u : Value} (hu : cur[j]? = some u) : Moved D xs cur (c1.setIfInBounds i u) (i + 1) (j + 1) := by
  have e : stayAt D xs (j + 1) = stayAt D xs j ++ [j] := by rw [stayAt_succ, if_neg (by rw [hd]; simp)]
  have hij : i ≤ j := by rw [h.len]; exact stayAt_len D xs j
  have hjc : j < cur.size := (Array.getElem?_eq_some_iff.1 hu).1
  refine ⟨by simp [h.size], by rw [e, List.length_append, ← h.len]; rfl, fun m hm => ?_, fun m hm => ?_⟩
  · by_cases hmi : m = i
    · subst hmi
      refine ⟨j, ?_, ?_⟩
      · rw [e, List.getElem?_append_right (by rw [← h.len]; exact Nat.le_refl _), ← h.len]; simp
      · rw [Array.getElem?_setIfInBounds, if_pos rfl, if_pos (by rw [h.size]; omega), hu]
    · obtain ⟨q, h1, h2⟩ := h.head m (by omega)
      refine ⟨q, ?_, ?_⟩
      · rw [e, List.getElem?_append_left (by rw [← h.len]; omega)]; exact h1
      · rw [Array.getElem?_setIfInBounds, if_neg (by omega)]; exact h2
  · rw [Array.getElem?_setIfInBounds, if_neg (by omega)]
    exact h.rest m (by omega)
theorem firstDel_spec (D : List Int → Bool) : ∀ (xs : List (List Int)) (i : Nat), (firstDel D xs i = -1 ∧ ∀ j, j < xs.length → D (xs.getD j []) = false) ∨ ∃ k, k < xs.length ∧ firstDel D xs i = ((i + k : Nat) : Int) ∧ D (xs.getD k []) = true ∧ ∀ j, j < k → D (xs.getD j []) = false
  | [], _ => .inl ⟨rfl, fun j hj => absurd hj (Nat.not_lt_zero _)⟩
  | x :: xs, i => by
    cases h : D x with
    | true => exact .inr ⟨0, by simp, by simp [firstDel, h], by simpa using h, fun j hj => absurd hj (Nat.not_lt_zero _)⟩
    | false =>
      rcases firstDel_spec D xs (i + 1) with ⟨e, ha⟩ | ⟨k, hk, e, ht, ha⟩
      · refine .inl ⟨by simp [firstDel, h, e], fun j hj => ?_⟩
        cases j with
        | zero => simpa using h
        | succ j => simpa using ha j (by simpa using hj)
      · refine .inr ⟨k + 1, by simpa using hk, ?_, by simpa using ht, fun j hj => ?_⟩
        · simp only [firstDel, h]
          rw [if_neg (by simp), e]
          congr 1
          omega
        · cases j with
          | zero => simpa using h
          | succ j => simpa using ha j (by omega)
theorem stayAt_all (D : List Int → Bool) (xs : List (List Int)) (k : Nat) (h : ∀ j, j < k → D (xs.getD j []) = false) : stayAt D xs k = List.range k := by
  unfold stayAt
  exact List.filter_eq_self.2 (fun j hj => by rw [h j (List.mem_range.1 hj)]; rfl)
theorem moved_start (D : List Int → Bool) (xs : List (List Int)) (cur : Array Value) (k : Nat) (h : ∀ j, j < k → D (xs.getD j []) = false) : Moved D xs cur cur k k := by
  have e := stayAt_all D xs k h
  refine ⟨rfl, by rw [e]; simp, fun m hm => ⟨m, by rw [e]; simp [hm], rfl⟩, fun _ _ => rfl⟩
theorem zero43 : ∀ w, (zeroValue 31).run Tryz.prog w = .ok (.slice none 0 0) w := by
  intro w
  kernel_rfl
/-- A row of numbers stays where the list's own block alone is written. -/
theorem row_grown {w w1 : World} {g base : Nat} {cur : Array Value} {u : Value} {x : List Int} (hR : (Kd.int .i64).R 3 w base (fun _ => True) u x) (hg : w.heap[g]? = some (.cells cur 31 (0, 0))) (h : w.grownBy w1 (some g)) : (Kd.int .i64).R 3 w1 base (fun _ => True) u x :=
  Kd.R_mono (Kd.R_grown (Kd.R_types hR hg (by decide)) h (fun k hk e => hk.2 (Option.some.inj e))) (fun _ _ => trivial)
theorem Sep.heads {w w1 : World} {g base n cap : Nat} {cur : Array Value} {us : List Value} {xs : List (List Int)} (hS : Sep w base (.slice (some ⟨g, 0, none⟩) n cap) us xs) (hg : w.heap[g]? = some (.cells cur 31 (0, 0))) (hcu : ∀ j, j < us.length → cur[j]? = us[j]?)
    (ha : ∀ x ∈ xs, Ages x ∧ x.length ≤ 4) (h : w.grownBy w1 (some g)) : Heads w1 cur xs := by
  intro j x hx
  have hj : j < xs.length := (List.getElem?_eq_some_iff.1 hx).1
  have hju : j < us.length := by rw [hS.len]; exact hj
  have hu := List.getElem?_eq_getElem hju
  have hR := row_grown (hS.inn j us[j] x hu hx) hg h
  obtain ⟨A, c, e⟩ := Kd.R_slice hR
  have hm := ha x (List.mem_of_getElem? hx)
  rw [e] at hR
  obtain ⟨_, h2, h3⟩ := Kd.R_reads' hR
  exact ⟨hm.1, hm.2, A, c, by rw [hcu j hju, hu, e], h2, h3⟩
theorem stayAt_nodup (D : List Int → Bool) (xs : List (List Int)) (j : Nat) : (stayAt D xs j).Nodup := List.Pairwise.filter _ List.nodup_range
theorem stayAt_lt (D : List Int → Bool) (xs : List (List Int)) (j q : Nat) (h : q ∈ stayAt D xs j) : q < j := List.mem_range.1 (List.mem_filter.1 h).1
theorem stay_filter (D : List Int → Bool) (xs : List (List Int)) : (stayAt D xs xs.length).map (fun q => xs.getD q []) = xs.filter fun x => !D x := by
  have key : (List.range xs.length).map (fun q => xs.getD q []) = xs := by
    apply List.ext_getElem
    · simp
    · intro i h1 h2
      simp [List.getD, List.getElem?_eq_getElem h2]
  conv => rhs; rw [← key]
  rw [List.filter_map]
  rfl
theorem Sep.stays {D : List Int → Bool} {w w1 : World} {g base n cap : Nat} {cur c1 : Array Value} {us : List Value} {xs : List (List Int)} (hS : Sep w base (.slice (some ⟨g, 0, none⟩) n cap) us xs) (hb : base ≤ g) (hg : w.heap[g]? = some (.cells cur 31 (0, 0))) (hcu : ∀ j, j < us.length → cur[j]? = us[j]?)
    (hcap : xs.length ≤ cap) (hcm : cap ≤ maxLen) (h : w.grownBy w1 (some g)) (h1 : w1.heap[g]? = some (.cells c1 31 (0, 0))) (h2 : c1.size = cap) (h3 : ∀ m, m < (stayAt D xs xs.length).length → ∃ q, (stayAt D xs xs.length)[m]? = some q ∧ c1[m]? = cur[q]?) :
    ∃ us', Sep w1 base (.slice (some ⟨g, 0, none⟩) (stayAt D xs xs.length).length cap) us' (xs.filter fun x => !D x) := by
  have hlen : (xs.filter fun x => !D x).length = (stayAt D xs xs.length).length := by rw [← stay_filter]; simp
  have hk := stayAt_len D xs xs.length
  have at_ : ∀ (m : Nat) (u : Value), (c1.toList.take (stayAt D xs xs.length).length)[m]? = some u → ∃ q, (stayAt D xs xs.length)[m]? = some q ∧ us[q]? = some u := by
    intro m u hu
    have hm : m < (stayAt D xs xs.length).length := by
      have := (List.getElem?_eq_some_iff.1 hu).1
      rw [List.length_take] at this
      omega
    obtain ⟨q, q1, q2⟩ := h3 m hm
    rw [List.getElem?_take, if_pos hm, Array.getElem?_toList, q2] at hu
    have hq := stayAt_lt D xs _ q (List.mem_of_getElem? q1)
    exact ⟨q, q1, by rw [← hcu q (by rw [hS.len]; exact hq)]; exact hu⟩
  refine ⟨c1.toList.take (stayAt D xs xs.length).length, ⟨?_, ?_, ?_, ?_⟩⟩
  · have hl : (c1.toList.take (stayAt D xs xs.length).length).length = (stayAt D xs xs.length).length := by rw [List.length_take]; simp; omega
    rw [hl]
    refine ⟨by rw [hl, Nat.mul_one], .inr ⟨g, cap, c1, rfl, hb, h1, by omega, hcm, by rw [h2, Nat.mul_one], by rw [Nat.mul_one]⟩⟩
  · rw [hlen, List.length_take]; simp; omega
  · intro m u x hu hx
    obtain ⟨q, q1, q2⟩ := at_ m u hu
    rw [← stay_filter, List.getElem?_map, q1] at hx
    have hq := stayAt_lt D xs _ q (List.mem_of_getElem? q1)
    have hx2 : xs[q]? = some x := by
      simp only [Option.map_some, Option.some.injEq] at hx
      rw [List.getElem?_eq_getElem hq, ← hx]
      simp [List.getD, List.getElem?_eq_getElem hq]
    exact row_grown (hS.inn q u x q2 hx2) hg h
  · intro i j u u' k hu hu' hk1 hk2
    obtain ⟨q, q1, q2⟩ := at_ i u hu
    obtain ⟨q', q1', q2'⟩ := at_ j u' hu'
    have e := hS.dis q q' u u' k q2 q2' hk1 hk2
    subst e
    have hi := (List.getElem?_eq_some_iff.1 q1).1
    exact (List.getElem?_inj hi (stayAt_nodup D xs _)).1 (q1.trans q1'.symm)
theorem allSets_ages (n : Nat) : ∀ (l s : List Int), Ages l → s ∈ allSets n l → Ages s ∧ s.length = l.length + n := by
  induction n with
  | zero =>
    intro l s hl hs
    obtain rfl : s = l := by simpa [allSets] using hs
    exact ⟨hl, rfl⟩
  | succ n ih =>
    intro l s hl hs
    have hf := hl.from_
    simp only [allSets, List.mem_flatten, List.mem_map, List.mem_range] at hs
    obtain ⟨_, ⟨i, hi, rfl⟩, hs⟩ := hs
    obtain ⟨h1, h2⟩ := ih _ s (hl.snoc (by omega) (by omega)) hs
    exact ⟨h1, by rw [h2]; simp; omega⟩
theorem Sep.to_S {w : World} {base : Nat} {v : Value} {us : List Value} {xs : List (List Int)} (h : Sep w base v us xs) : Kd.S (Kd.slice 3 (Kd.int .i64)) 31 w base (fun _ => True) v xs := by
  classical
  let f : Nat → Nat := fun k => if hk : ∃ (j : Nat) (u : Value), us[j]? = some u ∧ u.ownBlock = some k then hk.choose else 0
  have hf : ∀ j u k, us[j]? = some u → u.ownBlock = some k → f k = j := by
    intro j u k hu hk
    have hex : ∃ (j : Nat) (u : Value), us[j]? = some u ∧ u.ownBlock = some k := ⟨j, u, hu, hk⟩
    show (if hk : ∃ (j : Nat) (u : Value), us[j]? = some u ∧ u.ownBlock = some k then hk.choose else 0) = j
    rw [dif_pos hex]
    obtain ⟨u', h1, h2⟩ := hex.choose_spec
    exact h.dis _ _ u' u k h1 hu h2 hk
  refine ⟨f, fun _ _ => trivial, us, ?_, ?_, ?_⟩
  · rw [List.length_zipIdx, ← h.len]; exact h.row
  · rw [List.length_zipIdx, ← h.len]; exact (Nat.mul_one _).symm
  · rintro j ⟨x, i⟩ hx
    have hz := List.getElem?_zipIdx (l := xs) (i := 0) (j := j)
    rw [hx] at hz
    obtain ⟨y, hy, e⟩ := Option.map_eq_some_iff.1 hz.symm
    simp only [Prod.mk.injEq, Nat.zero_add] at e
    obtain ⟨rfl, rfl⟩ := e
    have hj : j < us.length := by rw [h.len]; exact (List.getElem?_eq_some_iff.1 hy).1
    have hu := List.getElem?_eq_getElem hj
    have hty : ∀ k, v.ownBlock = some k → ∃ cells, w.heap[k]? = some (.cells cells 31 (0, 0)) := by
      intro k hk
      rcases h.row.2 with ⟨e, _⟩ | ⟨g, cap, cur, e, _, hc, _⟩
      · rw [e] at hk; cases hk
      · rw [e] at hk
        obtain rfl : g = k := Option.some.inj hk
        exact ⟨cur, hc⟩
    have hR0 := Kd.R_apart' (h.inn j _ _ hu hy) hty (by decide)
    have hR := Kd.R_tight (d := Kd.int .i64) rfl hR0
    exact ⟨us[j], take_drop_one us j hu, Kd.R_mono hR (fun k hk => ⟨⟨trivial, (hR0.1 k hk.symm).2⟩, hf j _ k hu hk.symm⟩)⟩
/-- Values of one cell, as they are. -/
def rawKd : Kd Value where
  sz := 1
  E := []
  K := fun _ u cs => cs = [u] ∧ u.oneCell' = true
  M := fun _ _ _ u cs => cs = [u] ∧ u.oneCell' = true
  K_len := by rintro w x cs ⟨rfl, _⟩; rfl
  K_one := by
    rintro w x cs ⟨rfl, h⟩ u hu
    rw [List.mem_singleton.1 hu]
    exact h
  K_below := fun _ h => h
  K_of_M := fun h => h
  M_mono := fun _ h => h
  M_bound := fun h => h
  M_move := fun _ h => h
  M_lower := fun _ h => h
set_option maxHeartbeats 8000000 in
set_option maxRecDepth 100000 in
theorem cloneRows.calls (A0 : Option Addr) (c0 : Nat) (l0 : List Value) (r : List Value) (w : World) (hr0 : Kd.C rawKd w A0 l0.length l0) (hc0 : l0.length ≤ c0) (hL : l0.length < 5000000000000) (hlr : l0 = r) :
    Calls Tryz.prog 97 #[.slice A0 l0.length c0] w fun e w' => ∃ v0_ : Value, e = .returned (v0_) ∧ Kd.R rawKd 31 w' w.heap.size (fun _ => True) v0_ r ∧ Below w.heap.size w w' := by
  subst hlr
  have HB := Aside0.mk (Below.refl w.heap.size w)
  have HL := Aside0.mk hL
  clear hL
  have q22 : ∀ (w : World) (a : Option Addr) (n c n' c' : Nat), (binOp .eql 26 (.slice a n c) (.slice none n' c')).run Tryz.prog w = .ok (.bool a.isNone) w := fun w a n c n' c' => Lib.run_eql_slice_nil w _ _ a n c n' c' Tryz.underlying26
  cases A0 with
  | none =>
    have hn : l0 = [] := by
      cases l0 with
      | nil => rfl
      | cons x l => obtain ⟨ad, e, _⟩ := hr0.2.2 (by simp); cases e
    subst hn
    go_enter Tryz.func97, Tryz.ntmps97
    go_wp2
    go_ret
    exact ⟨_, rfl, Kd.R_nil _ _ _ _ _, Below.refl _ _⟩
  | some ad =>
    have HR0 := Aside0.mk hr0
    clear hr0
    go_enter Tryz.func97, Tryz.ntmps97
    go_wp2_with (first | ((with_reducible refine gate_dst (N := 5) rfl ?_); refine Kd.R_lit rawKd _ 31 ?hg (N := 5) ?hd (xs := ([] : List Value)) (inner := []) (ok := fun _ => True) (okp := fun _ => True) ?hr ?hp (fun _ hk => hk) trivial (Below.refl _ _) (Nat.le_refl _) (by simp) ?_; (case hd => rfl); (case hg => rfl); (case hr => first | (go_simp; done) | (go_simp; rfl)); (case hp => exact (Reps.none _ _)); intro v198 w3 ho4 hb hg_ hnew_; clear hg_ hnew_; have HO := Aside0.mk (Kd.R_lower ho4 (Nat.le_refl _)); have HB1 := Aside0.mk hb; clear HB ho4 hb) | ((with_reducible refine gate_builtin (b := .append) (xs := #[.tmp 5, .tmp 6]) rfl ?_); at_builtin; refine Kd.R_append_rows rawKd (w0 := w) w.heap.size rfl (.tmp 5) (.tmp 6) 26 31 (.slice none 0 0) 24 rfl Tryz.underlying26 infoRows rfl (by decide) (by omega) v198 [] l0 _ _ _ (fun _ => True) (fun _ => False) rfl rfl ?aO ?aR (fun _ _ h => h) (fun _ h => h.elim) ?aF ?aB ?aS ?aL ?_; (case aR => exact Kd.C_below HR0.out HB1.out); (case aB => exact HB1.out); (case aF => exact (fun _ _ => trivial)); (case aO => exact HO.out); (case aS => exact HB1.out.size); (case aL => have := HL.out; simp only [List.length_nil]; omega); intro v201 w5 ho hb hg hat; have HO2 := Aside0.mk ho; have HB2 := Aside0.mk hb; clear HB1 HO ho hb hg hat))
    go_ret
    exact ⟨_, rfl, by rw [← List.nil_append l0]; exact HO2.out, HB2.out⟩

theorem reps_raw {w : World} {us inner : List Value} {base : Nat} {ok : Nat → Prop} (h : Reps (rawKd.M w base ok) 1 us inner) : inner = us := by
  have hl : inner.length = us.length := by have := h.1; omega
  apply List.ext_getElem? 
  intro j
  by_cases hj : j < us.length
  · have hu := List.getElem?_eq_getElem hj
    obtain ⟨e, _⟩ := h.2 j us[j] hu
    rw [drop_take_one inner j e, hu]
  · rw [List.getElem?_eq_none (by omega), List.getElem?_eq_none (by omega)]
/-- Headers of rows of a list, laid into a new outer row. -/
theorem Sep.raw {D : List Int → Bool} {w w1 : World} {base b1 : Nat} {ok : Nat → Prop} {v v1 : Value} {us us1 : List Value} {xs : List (List Int)} (hS : Sep w base v us xs) (hb : Below w.heap.size w w1) (hle : base ≤ b1) (hR : Kd.R rawKd 31 w1 b1 ok v1 us1)
    (hu : us1 = (stayAt D xs xs.length).map (fun q => us.getD q (.int .i64 0))) : Sep w1 base v1 us1 (xs.filter fun x => !D x) := by
  obtain ⟨h0, inner, ho, hr⟩ := Kd.R_lower hR hle
  obtain rfl := reps_raw hr
  have hlen : (xs.filter fun x => !D x).length = (stayAt D xs xs.length).length := by rw [← stay_filter]; simp
  have at_ : ∀ (m : Nat) (u : Value), inner[m]? = some u → ∃ q, (stayAt D xs xs.length)[m]? = some q ∧ us[q]? = some u := by
    intro m u hm
    rw [hu, List.getElem?_map] at hm
    obtain ⟨q, q1, q2⟩ := Option.map_eq_some_iff.1 hm
    have hq := stayAt_lt D xs _ q (List.mem_of_getElem? q1)
    rw [← hS.len] at hq
    refine ⟨q, q1, ?_⟩
    rw [← q2]
    simp [List.getD, List.getElem?_eq_getElem hq]
  refine ⟨ho, by rw [hu, hlen]; simp, ?_, ?_⟩
  · intro m u x hm hx
    obtain ⟨q, q1, q2⟩ := at_ m u hm
    rw [← stay_filter, List.getElem?_map, q1] at hx
    have hq := stayAt_lt D xs _ q (List.mem_of_getElem? q1)
    have hx2 : xs[q]? = some x := by
      simp only [Option.map_some, Option.some.injEq] at hx
      rw [List.getElem?_eq_getElem hq, ← hx]
      simp [List.getD, List.getElem?_eq_getElem hq]
    exact Kd.R_below (hS.inn q u x q2 hx2) hb
  · intro i j u u' k hi hj hk1 hk2
    obtain ⟨q, q1, q2⟩ := at_ i u hi
    obtain ⟨q', q1', q2'⟩ := at_ j u' hj
    have e := hS.dis q q' u u' k q2 q2' hk1 hk2
    subst e
    have h1 := (List.getElem?_eq_some_iff.1 q1).1
    exact (List.getElem?_inj h1 (stayAt_nodup D xs _)).1 (q1.trans q1'.symm)
theorem stayAt_none (xs : List (List Int)) (us : List Value) (h : us.length = xs.length) : us = (stayAt (fun _ => false) xs xs.length).map (fun q => us.getD q (.int .i64 0)) := by
  rw [stayAt_all (fun _ => false) xs xs.length (fun _ _ => rfl), ← h]
  apply List.ext_getElem
  · simp
  · intro i h1 h2
    simp [List.getD, List.getElem?_eq_getElem h1]
theorem filter_none (xs : List (List Int)) : (xs.filter fun x => !(fun _ : List Int => false) x) = xs := by simp
/-- The headers are of one cell. -/
theorem Sep.cells {w : World} {base : Nat} {v : Value} {us : List Value} {xs : List (List Int)} (h : Sep w base v us xs) : ∃ A c, v = .slice A us.length c ∧ us.length ≤ c ∧ Kd.C rawKd w A us.length us := by
  have hR : Reps (rawKd.K w) 1 us us := by
    refine ⟨by rw [Nat.mul_one], fun j p hp => ?_⟩
    rw [take_drop_one us j hp]
    have hj : j < xs.length := by rw [← h.len]; exact (List.getElem?_eq_some_iff.1 hp).1
    obtain ⟨A, c, e⟩ := Kd.R_slice (h.inn j p _ hp (List.getElem?_eq_getElem hj))
    exact ⟨rfl, by rw [e]; rfl⟩
  obtain ⟨A, c, hv, hread⟩ := own_reads_row h.row hR rfl
  refine ⟨A, c, hv, ?_, hread⟩
  rcases h.row.2 with ⟨h1, h2⟩ | ⟨g, cap, cur, h1, _, _, h2, _⟩
  · omega
  · rw [h1] at hv
    injection hv with _ h3 h4
    omega

end Go.Proofs.YtlbnhjeblknepaaGreat.E
-- WRITTEN by xprint.py, a program of this session that drives the kit's printer: out of the translation. Lean checks it.
namespace Go.Proofs.YtlbnhjeblknepaaGreat.E
open Go.RowKit Go.Proofs.YtlbnhjeblknepaaGreatW.PrintWords Go.Proofs.YtlbnhjeblknepaaGreatW.PrintLast
set_option linter.unusedVariables false
set_option linter.unusedSimpArgs false

/-! ### impl_total: function 91 -/
def impl_total.l0 : Nat → Int → List Int → Int → Int → Option (Int)
  | 0, _, _, _, _ => none
  | k + 1, x3, x6, x7, x8 => if x8 < x7 then (if 0 ≤ x8 then (if x8 < (x6.length : Int) then (impl_total.l0 k (wrap64 (x3 + (rd x6 x8))) x6 x7 (wrap64 (x8 + 1))) else (none)) else (none)) else (some x3)
def impl_total.f (k : Nat) (l0 : List Int) : Option (Int) := impl_total.l0 k 0 l0 (l0.length : Int) 0
theorem impl_total.mono_l : ∀ k, (∀ y0 y1 y2 y3, LeO (impl_total.l0 k y0 y1 y2 y3) (impl_total.l0 (k + 1) y0 y1 y2 y3))
  | 0 => fun _ _ _ _ r h => by simp [impl_total.l0] at h
  | k + 1 => by
    have ih0 := impl_total.mono_l k
    · intro y0 y1 y2 y3
      unfold impl_total.l0
      repeat' first
      | (with_reducible exact ih0 _ _ _ _)
      | (with_reducible exact LeO.refl _)
      | (with_reducible exact LeO.none _)
      | (with_reducible refine LeO.ite ?_ ?_)
      | (with_reducible refine LeO.bind ?_ (fun _ => ?_))
      | exact ih0 _ _ _ _
      | exact LeO.none _
      | refine LeO.ite ?_ ?_
      | refine LeO.bind ?_ (fun _ => ?_)
theorem impl_total.mono : ∀ a0 k, LeO (impl_total.f k a0) (impl_total.f (k + 1) a0) := by
  intro a0 k
  have ih0 := impl_total.mono_l k
  unfold impl_total.f
  repeat' first
      | (with_reducible exact ih0 _ _ _ _)
      | (with_reducible exact LeO.refl _)
      | (with_reducible exact LeO.none _)
      | (with_reducible refine LeO.ite ?_ ?_)
      | (with_reducible refine LeO.bind ?_ (fun _ => ?_))
      | exact ih0 _ _ _ _
      | exact LeO.none _
      | refine LeO.ite ?_ ?_
      | refine LeO.bind ?_ (fun _ => ?_)
set_option maxHeartbeats 8000000 in
set_option maxRecDepth 100000 in
theorem impl_total.calls (k : Nat) (A0 : Option Addr) (c0 : Nat) (l0 : List Int) (r : Int) (w : World) (hr0 : Kd.C (Kd.int .i64) w A0 l0.length l0) (hc0 : l0.length ≤ c0) (h : impl_total.f k l0 = some r) :
    Calls Tryz.prog 91 #[.slice A0 l0.length c0] w fun e w' => e = .returned (.int .i64 r) ∧ Drawn0 w w' := by
  have HR0 := Aside0.mk hr0
  have HC0 := Aside0.mk hc0
  clear hr0 hc0
  have H : (impl_total.l0 k 0 l0 (l0.length : Int) 0) = some r := h
  clear h
  have H' := Aside0.mk H
  clear H
  go_enter Tryz.func91, Tryz.ntmps91
  go_wp2
  go_loopg [3, 8] k (fun kq v3 v8 w' => ∃ (x3_1 : Int) (x8_1 : Int), v3 = .int .i64 x3_1 ∧ v8 = .int .i64 x8_1 ∧ Aside0 (impl_total.l0 kq x3_1 l0 (l0.length : Int) x8_1 = some r) ∧ Aside0 (kq ≤ k) ∧ Drawn0 w w')
  case atStart => exact ⟨(0), (0), (by first | rfl | (simp; done) | (simp [*]; done)), (by first | rfl | (simp; done) | (simp [*]; done)), H', ⟨Nat.le_refl _⟩, by repeat (first | exact Drawn0.refl _ | apply Drawn0.step)⟩
  case round =>
    clear H'
    obtain ⟨x3_1, x8_1, rfl, rfl, HA, HK1, ⟨m1, rfl⟩⟩ := hrel
    cases gk with
    | zero => exact absurd HA.out (by simp [impl_total.l0])
    | succ k1 =>
      have H := HA.out
      clear HA
      simp only [impl_total.l0] at H
      by_cases c2 : x8_1 < (l0.length : Int)
      · rw [if_pos c2] at H
        have c2b0 : decide (x8_1 < (l0.length : Int)) = true := decide_eq_true c2
        clear c2
        by_cases c3 : 0 ≤ x8_1
        · rw [if_pos c3] at H
          have c3b0 : decide (0 ≤ x8_1) = true := decide_eq_true c3
          clear c3
          by_cases c4 : x8_1 < (l0.length : Int)
          · rw [if_pos c4] at H
            have c4b0 : decide (x8_1 < (l0.length : Int)) = true := decide_eq_true c4
            clear c4
            have H' := Aside0.mk H
            clear H
            have p168 : 0 ≤ (x8_1 : Int) := of_decide_eq_true (by first | (with_reducible assumption) | assumption)
            have q168 : x8_1 < (l0.length : Int) := of_decide_eq_true (by first | (with_reducible assumption) | assumption)
            obtain ⟨ad168, e168, hx168_0⟩ := Kd.at_int HR0.out x8_1 p168 q168
            cases e168
            replace p168 := eq_true p168
            replace q168 := eq_true q168
            go_wp2
            go_roundg k1
            case measure => have := HK1.out; omega
            case rel => exact ⟨(wrap64 (x3_1 + (rd l0 x8_1))), (wrap64 (x8_1 + 1)), (by first | rfl | (simp; done) | (simp [*]; done)), (by first | rfl | (simp; done) | (simp [*]; done)), H', ⟨by have := HK1.out; omega⟩, by repeat (first | exact Drawn0.refl _ | apply Drawn0.step)⟩
          · rw [if_neg c4] at H
            exact absurd H (by simp)
        · rw [if_neg c3] at H
          exact absurd H (by simp)
      · rw [if_neg c2] at H
        have c2b0 : decide (x8_1 < (l0.length : Int)) = false := decide_eq_false c2
        clear c2
        obtain rfl := Option.some.inj H
        go_wp2
        go_ret
        exact ⟨by first | rfl | (simp; done) | (simp [*]; done), by repeat (first | exact Drawn0.refl _ | apply Drawn0.step)⟩

end Go.Proofs.YtlbnhjeblknepaaGreat.E
-- WRITTEN by xprint.py, a program of this session that drives the kit's printer: out of the translation. Lean checks it.
namespace Go.Proofs.YtlbnhjeblknepaaGreat.E
open Go.RowKit Go.Proofs.YtlbnhjeblknepaaGreatW.PrintWords Go.Proofs.YtlbnhjeblknepaaGreatW.PrintLast
set_option linter.unusedVariables false
set_option linter.unusedSimpArgs false

-- OURS, BY HAND
/-! ### impl_withSum: function 61 -/
-- func impl.withSum
-- ext raw=1
-- needs slices.DeleteFunc[[][]int,[]int]
-- needs impl.total
-- import Derived.Lib.SliceRun
-- import Derived.WalkSpells
def sumL (l : List Int) : Int := l.foldl (· + ·) 0
theorem sumOn (l : List Int) (hl : l.length ≤ 4) (ha : Ages l) : ∀ (n i : Nat) (acc : Int), i + n = l.length → 0 ≤ acc → acc ≤ 20 * i → impl_total.l0 (n + 1) acc l (l.length : Int) (i : Int) = some ((l.drop i).foldl (· + ·) acc) := by
  intro n
  induction n with
  | zero =>
    intro i acc hi h0 h1
    have : ¬ ((i : Int) < (l.length : Int)) := by omega
    rw [impl_total.l0, if_neg this, List.drop_of_length_le (by omega)]
    rfl
  | succ n ih =>
    intro i acc hi h0 h1
    have hlt : i < l.length := by omega
    have hr : rd l (i : Int) = l[i] := by simp [rd, List.getD, List.getElem?_eq_getElem hlt]
    have hx := ha l[i] (List.getElem_mem hlt)
    rw [impl_total.l0, if_pos (by omega), if_pos (by omega), if_pos (by omega), hr, wrap_small (acc + l[i]) (by omega) (by omega), wrap_small ((i : Int) + 1) (by omega) (by omega)]
    have := ih (i + 1) (acc + l[i]) (by omega) (by omega) (by omega)
    rw [List.drop_eq_getElem_cons hlt, List.foldl_cons]
    exact_mod_cast this
theorem total_is (l : List Int) (hl : l.length ≤ 4) (ha : Ages l) : impl_total.f (l.length + 1) l = some (sumL l) := by
  unfold impl_total.f
  exact sumOn l hl ha l.length 0 0 (by omega) (by omega) (by simp)
def hasSum (t : Int) (s : List Int) : Bool := decide (sumL s = t)
/-- What is asked of the function that tells which sets go. -/
def DelAsks (t : Int) (D : Int → List Int → Bool) : Prop := ∀ (s : List Int) (A : Option Addr) (c r : Nat) (W : World), Ages s → s.length ≤ 4 → s.length ≤ c → (Kd.int .i64).C W A s.length s → W.heap[r]? = some (.cells #[.int .i64 t] 3 (0, 0)) →
  Calls Tryz.prog 98 #[.slice A s.length c, .pointer (some ⟨r, 0, none⟩)] W fun e w' => e = .returned (.bool (D t s)) ∧ Drawn0 W w'
set_option maxHeartbeats 800000 in
set_option maxRecDepth 100000 in
theorem indexFunc_calls (D : Int → List Int → Bool) (t : Int) (hD : DelAsks t D) (r g cap : Nat) (xs : List (List Int)) (cur : Array Value) (W : World) (hr : W.heap[r]? = some (.cells #[.int .i64 t] 3 (0, 0)))
    (hg : W.heap[g]? = some (.cells cur 31 (0, 0))) (hh : Heads W cur xs) (hn : xs.length ≤ 200000) (hc : xs.length ≤ cap) :
    Calls Tryz.prog 104 #[.slice (some ⟨g, 0, none⟩) xs.length cap, .func (.func 98) #[] #[.pointer (some ⟨r, 0, none⟩)]] W fun e w' => e = .returned (.int .i64 (firstDel (D t) xs 0)) ∧ Drawn0 W w' := by
  obtain ⟨ad, had⟩ : ∃ ad : Addr, ad = ⟨g, 0, none⟩ := ⟨_, rfl⟩
  rw [← had]
  have HAD := Aside0.mk had
  have HG := Aside0.mk hg
  have HH := Aside0.mk hh
  have HR := Aside0.mk hr
  clear hg hh had hr
  go_enter Tryz.func104, Tryz.ntmps104
  go_wp2
  go_loopw [8] (fun v8 wr => ∃ i : Nat, i ≤ xs.length ∧ v8 = .int .i64 (i : Int) ∧ Aside0 (firstDel (D t) xs 0 = firstDel (D t) (xs.drop i) i) ∧ Aside0 (∃ m, wr = W.drewN m)) (fun v8 _ => xs.length - (intOf v8).toNat)
  case atStart => exact ⟨0, Nat.zero_le _, rfl, ⟨rfl⟩, ⟨0, rfl⟩⟩
  case round =>
    obtain ⟨i, hi, rfl, HF, HM⟩ := hrel
    obtain ⟨m0, hm0⟩ := HM.out
    clear HM
    subst hm0
    by_cases hlt : i < xs.length
    · have hlt1 : decide ((i : Int) < (xs.length : Int)) = true := decide_eq_true (by omega)
      obtain ⟨ha, h4, A, c, hcur, hxc, hC⟩ := HH.out i xs[i] (List.getElem?_eq_getElem hlt)
      have hx0 : (W.drewN m0).cell? (ad.add i) = some (.slice A xs[i].length c) := by
        rw [HAD.out, add_at]
        exact (blk_cell (blk_drewN HG.out m0) i).trans hcur
      have HC := Aside0.mk (hD xs[i] A c r (W.drewN m0) ha h4 hxc (Kd.C_drewN hC m0) (blk_drewN HR.out m0))
      have hdr : firstDel (D t) (xs.drop i) i = if D t xs[i] = true then (i : Int) else firstDel (D t) (xs.drop (i + 1)) (i + 1) := by rw [List.drop_eq_getElem_cons hlt]; rfl
      have HDR := Aside0.mk hdr
      clear ha h4 hcur hC hdr
      cases hd : D t xs[i] with
      | true =>
        rw [hd] at HC HDR
        clear hd
        go_wp2_with (go_at_call 98; (with_reducible refine HC.out.mono ?_); rintro e w' ⟨rfl, ⟨nd, rfl⟩⟩)
        go_ret
        refine ⟨?_, ⟨_, rfl⟩⟩
        rw [HF.out, HDR.out]
        rfl
      | false =>
        rw [hd] at HC HDR
        clear hd
        go_wp2_with (go_at_call 98; (with_reducible refine HC.out.mono ?_); rintro e w' ⟨rfl, ⟨nd, rfl⟩⟩)
        go_roundw
        case rel => exact ⟨i + 1, by omega, by go_num, ⟨by rw [HF.out, HDR.out]; rfl⟩, ⟨_, rfl⟩⟩
        case measure => simp [intOf]; omega
    · obtain rfl : i = xs.length := by omega
      go_wp2
      go_ret
      refine ⟨?_, ⟨_, rfl⟩⟩
      rw [HF.out, List.drop_of_length_le (Nat.le_refl _)]
      rfl
set_option maxHeartbeats 1600000 in
set_option maxRecDepth 100000 in
theorem deleteFunc_calls (D : Int → List Int → Bool) (t : Int) (hD : DelAsks t D) (r g cap : Nat) (xs : List (List Int)) (cur : Array Value) (W : World) (hr : W.heap[r]? = some (.cells #[.int .i64 t] 3 (0, 0))) (hrg : r ≠ g)
    (hg : W.heap[g]? = some (.cells cur 31 (0, 0))) (hh : ∀ w1, W.grownBy w1 (some g) → Heads w1 cur xs) (hn : xs.length ≤ 200000) (hc : xs.length ≤ cap) (hcs : cur.size = cap) (hcm : cap ≤ maxLen) :
    Calls Tryz.prog 78 #[.slice (some ⟨g, 0, none⟩) xs.length cap, .func (.func 98) #[] #[.pointer (some ⟨r, 0, none⟩)]] W fun e w' =>
      e = .returned (.slice (some ⟨g, 0, none⟩) (stayAt (D t) xs xs.length).length cap) ∧ W.grownBy w' (some g) ∧ ∃ c1, w'.heap[g]? = some (.cells c1 31 (0, 0)) ∧ c1.size = cap ∧ ∀ m, m < (stayAt (D t) xs xs.length).length → ∃ q, (stayAt (D t) xs xs.length)[m]? = some q ∧ c1[m]? = cur[q]? := by
  have HI := Aside0.mk (indexFunc_calls D t hD r g cap xs cur W hr hg (hh W (grown_refl W g)) hn hc)
  have HG := Aside0.mk hg
  have HH := Aside0.mk hh
  have HR := Aside0.mk hr
  have HCM := Aside0.mk hcm
  clear hg hh hr hcm
  obtain ⟨ad, had⟩ : ∃ ad : Addr, ad = ⟨g, 0, none⟩ := ⟨_, rfl⟩
  rw [← had] at HI ⊢
  have HAD := Aside0.mk had
  clear had
  rcases firstDel_spec (D t) xs 0 with ⟨e1, hall⟩ | ⟨k, hk, e1, hdk, hall⟩
  · rw [e1] at HI
    have HALL := Aside0.mk hall
    clear hall e1
    go_enter Tryz.func78, Tryz.ntmps78
    go_wp2_with (go_at_call 104; (with_reducible refine HI.out.mono ?_); rintro e w' ⟨rfl, ⟨nd, rfl⟩⟩)
    go_ret
    have hM := moved_start (D t) xs cur xs.length HALL.out
    rw [stayAt_all (D t) xs _ HALL.out, List.length_range]
    refine ⟨rfl, grown_drewN (grown_refl W g) nd, cur, HG.out, hcs, fun m hm => ⟨m, by first | simp [hm] | (rw [List.getElem?_range hm]), rfl⟩⟩
  · rw [e1, Nat.zero_add] at HI
    have HM0 := Aside0.mk ((moved_start (D t) xs cur k hall).skip hdk)
    have hk1 : ((k : Int) == -1) = false := by first | (simp; done) | (simp; omega)
    clear hall e1
    go_enter Tryz.func78, Tryz.ntmps78
    go_wp2_with (go_at_call 104; (with_reducible refine HI.out.mono ?_); rintro e w' ⟨rfl, ⟨nd, rfl⟩⟩)
    go_loopw [5, 6, 7] (fun v5 v6 v7 wr => ∃ (i j : Nat) (c1 : Array Value), i < j ∧ j ≤ xs.length ∧ v5 = .int .i64 (i : Int) ∧ v6 = .int .i64 (j : Int) ∧ Aside0 (Moved (D t) xs cur c1 i j) ∧ Aside0 (wr.heap[g]? = some (.cells c1 31 (0, 0))) ∧ Aside0 (W.grownBy wr (some g))) (fun _ v6 _ _ => xs.length - (intOf v6).toNat)
    case atStart => exact ⟨k, k + 1, cur, by omega, by omega, rfl, by go_num, HM0, ⟨blk_drewN HG.out nd⟩, ⟨grown_drewN (grown_refl W g) nd⟩⟩
    case round =>
      obtain ⟨i, j, c1, hij, hj, rfl, rfl, HMV, HGR, HK⟩ := hrel
      have HS := HMV.out.size
      by_cases hlt : j < xs.length
      · obtain ⟨ha, h4, A, c, hcur, hxc, hC⟩ := HH.out wr HK.out j xs[j] (List.getElem?_eq_getElem hlt)
        have hlt1 : decide ((j : Int) < (xs.length : Int)) = true := decide_eq_true (by omega)
        have hgd : xs.getD j [] = xs[j] := by simp [List.getD, List.getElem?_eq_getElem hlt]
        have hrw : wr.heap[r]? = some (.cells #[.int .i64 t] 3 (0, 0)) := (HK.out.block r (blk_lt HR.out) (fun e => hrg (Option.some.inj e))).trans HR.out
        have hx0 : wr.cell? (ad.add j) = some (.slice A xs[j].length c) := by
          rw [HAD.out, add_at]
          exact ((blk_cell HGR.out j).trans (HMV.out.rest j (Nat.le_refl _))).trans hcur
        have HC := Aside0.mk (hD xs[j] A c r wr ha h4 hxc hC hrw)
        have HCU := Aside0.mk hcur
        have HGD := Aside0.mk hgd
        obtain ⟨ci, hci⟩ : ∃ ci, c1[i]? = some ci := ⟨c1[i]'(by omega), Array.getElem?_eq_getElem _⟩
        have hx1 : ∀ m, (wr.drewN m).cell? (ad.add i) = some ci := fun m => by
          rw [HAD.out, add_at]
          exact (blk_cell (blk_drewN HGR.out m) i).trans hci
        have hx2 : ∀ m, (wr.drewN m).frozen? (ad.add i) = false := fun m => by
          rw [HAD.out, add_at]
          exact blk_frozen (blk_drewN HGR.out m) i
        have p1 : ((i : Int) < (xs.length : Int)) = True := eq_true (by omega)
        clear ha h4 hcur hC hrw hgd hci HS
        cases hd : D t xs[j] with
        | true =>
          rw [hd] at HC
          have HDD := Aside0.mk hd
          clear hd
          go_wp2_with (go_at_call 98; (with_reducible refine HC.out.mono ?_); rintro e w' ⟨rfl, ⟨nd, rfl⟩⟩)
          go_roundw
          case rel => exact ⟨i, j + 1, c1, by omega, by omega, rfl, by go_num, ⟨HMV.out.skip (by rw [HGD.out]; exact HDD.out)⟩, ⟨blk_drewN HGR.out _⟩, ⟨grown_drewN HK.out _⟩⟩
          case measure => simp [intOf]; omega
        | false =>
          rw [hd] at HC
          have HDD := Aside0.mk hd
          clear hd
          go_wp2_with (go_at_call 98; (with_reducible refine HC.out.mono ?_); rintro e w' ⟨rfl, ⟨nd, rfl⟩⟩)
          go_roundw
          case rel => exact ⟨i + 1, j + 1, _, by omega, by omega, by go_num, by go_num, ⟨HMV.out.keep (by rw [HGD.out]; exact HDD.out) HCU.out⟩, ⟨by rw [HAD.out, add_at]; exact blk_set (blk_drewN HGR.out _) _ _⟩, ⟨by rw [HAD.out, add_at]; exact grown_set (grown_drewN HK.out _) _ _⟩⟩
          case measure => simp [intOf]; omega
      · obtain rfl : j = xs.length := by omega
        have hlt1 : decide ((xs.length : Int) < (xs.length : Int)) = false := decide_eq_false (by omega)
        have hne : (cap = i) = False := eq_false (by omega)
        have hclr : ∀ ty, (Builtin.clear_ #[26] ty #[.slice (some (ad.add i)) (xs.length - i) (cap - i)]).run Tryz.prog wr = .ok (.tuple #[]) (wr.setCells g i (List.replicate (xs.length - i) (.slice none 0 0))) := fun ty => by
          rw [HAD.out, add_at]
          exact Lib.run_clear_slice wr _ _ ty _ Tryz.underlying26 zero43 rfl rfl g i _ _ (by omega) (fun m hm => by rw [blk_cell HGR.out, Array.getElem?_eq_getElem (by omega)]; rfl) (fun m hm => blk_frozen HGR.out _)
        have HX := Aside0.mk (setCells_keeps (w := W) (g := g) (List.replicate (xs.length - i) (.slice none 0 0)) i wr c1 HK.out HGR.out)
        have p1 : ((i : Int) ≤ (xs.length : Int)) = True := eq_true (by omega)
        clear HS
        go_wp2
        go_ret
        obtain ⟨h1, c2, h2, h3, h4⟩ := HX.out
        have hM := HMV.out
        have hl := hM.len
        refine ⟨by rw [← hl]; rfl, h1, c2, h2, by rw [h3, hM.size, hcs], fun m hm => ?_⟩
        obtain ⟨q, q1, q2⟩ := hM.head m (by omega)
        exact ⟨q, q1, (h4 m (by omega)).trans q2⟩
set_option maxHeartbeats 800000 in
set_option maxRecDepth 100000 in
theorem indexFunc_nil (r : Nat) (W : World) : Calls Tryz.prog 104 #[.slice none 0 0, .func (.func 98) #[] #[.pointer (some ⟨r, 0, none⟩)]] W fun e w' => e = .returned (.int .i64 (-1)) ∧ w' = W := by
  go_enter Tryz.func104, Tryz.ntmps104
  go_wp2
  go_loopw [8] (fun v8 wr => v8 = .int .i64 0 ∧ Aside0 (wr = W)) (fun _ _ => 0)
  case atStart => exact ⟨rfl, ⟨rfl⟩⟩
  case round =>
    obtain ⟨rfl, HW⟩ := hrel
    go_wp2
    go_ret
    exact ⟨rfl, HW.out⟩
set_option maxHeartbeats 800000 in
set_option maxRecDepth 100000 in
theorem deleteFunc_nil (r : Nat) (W : World) : Calls Tryz.prog 78 #[.slice none 0 0, .func (.func 98) #[] #[.pointer (some ⟨r, 0, none⟩)]] W fun e w' => e = .returned (.slice none 0 0) ∧ w' = W := by
  have HI := Aside0.mk (indexFunc_nil r W)
  go_enter Tryz.func78, Tryz.ntmps78
  go_wp2_with (go_at_call 104; (with_reducible refine HI.out.mono ?_); rintro e w' ⟨rfl, rfl⟩)
  go_ret
  exact ⟨rfl, rfl⟩

theorem deleteFunc_G (D : Int → List Int → Bool) (t : Int) (hD : DelAsks t D) (r base : Nat) (xs : List (List Int)) (v : Value) (W : World) (hr : W.heap[r]? = some (.cells #[.int .i64 t] 3 (0, 0)))
    (hS : Kd.S (Kd.slice 3 (Kd.int .i64)) 31 W base (fun _ => True) v xs) (ha : ∀ x ∈ xs, Ages x ∧ x.length ≤ 4) (hn : xs.length ≤ 200000) :
    Calls Tryz.prog 78 #[v, .func (.func 98) #[] #[.pointer (some ⟨r, 0, none⟩)]] W fun e w' => ∃ v', e = .returned v' ∧ Kd.S (Kd.slice 3 (Kd.int .i64)) 31 w' base (fun _ => True) v' (xs.filter fun x => !D t x) ∧ W.grownBy w' v.ownBlock := by
  obtain ⟨us, hs⟩ := Sep.of_S hS
  rcases hs.row.2 with ⟨rfl, e⟩ | ⟨g, cap, cur, rfl, hb, hg, hnc, hcm, hsz, htk⟩
  · have hx : xs = [] := List.eq_nil_of_length_eq_zero (by rw [← hs.len]; exact e)
    subst hx
    refine (deleteFunc_nil r W).mono ?_
    rintro e w' ⟨rfl, rfl⟩
    exact ⟨_, rfl, Kd.S_nil _ _ _ _ _, ⟨rfl, rfl, rfl, Nat.le_refl _, fun _ _ _ => rfl⟩⟩
  · have hl := hs.len
    rw [Nat.mul_one] at hsz htk
    have hrg : r ≠ g := blk_ne hr hg (by decide)
    have hcu : ∀ j, j < us.length → cur[j]? = us[j]? := by
      intro j hj
      have := congrArg (fun l => l[j]?) htk
      simp only [List.getElem?_take, if_pos hj, Array.getElem?_toList] at this
      exact this
    have key := deleteFunc_calls D t hD r g cap xs cur W hr hrg hg (fun w1 h => hs.heads hg hcu ha h) hn (by omega) hsz hcm
    rw [hl]
    refine key.mono ?_
    rintro e w' ⟨rfl, hk, c1, h1, h2, h3⟩
    obtain ⟨us', hs'⟩ := hs.stays hb hg hcu (by omega) hcm hk h1 h2 h3
    exact ⟨_, rfl, hs'.to_S, hk⟩

set_option maxHeartbeats 800000 in
set_option maxRecDepth 100000 in
theorem asks_other (t : Int) (s : List Int) (A : Option Addr) (c r : Nat) (W : World) (ha : Ages s) (h4 : s.length ≤ 4) (hcc : s.length ≤ c) (hC : (Kd.int .i64).C W A s.length s) (hr : W.heap[r]? = some (.cells #[.int .i64 t] 3 (0, 0))) :
    Calls Tryz.prog 98 #[.slice A s.length c, .pointer (some ⟨r, 0, none⟩)] W fun e w' => e = .returned (.bool (!hasSum t s)) ∧ Drawn0 W w' := by
  have HP := Aside0.mk (fun n => impl_total.calls _ A c s _ (W.drewN n) (Kd.C_drewN hC n) hcc (total_is s h4 ha))
  have hc1 := fun m => blk_cell (blk_drewN hr m) 0
  simp only [List.getElem?_toArray, List.getElem?_cons_zero] at hc1
  have e1 : (!(sumL s == t)) = !hasSum t s := rfl
  clear hC
  go_enter Tryz.func98, Tryz.ntmps98
  go_wp2
  go_quiet ((go_at_call 91; (with_reducible refine (HP.out _).mono ?_); rintro e w' ⟨rfl, ⟨nd, rfl⟩⟩; exact ⟨rfl, _, World.drewN_drewN _ _ _⟩))
  go_wp2
  go_ret
  exact ⟨by rw [← e1]; rfl, ⟨_, rfl⟩⟩
set_option maxHeartbeats 8000000 in
set_option maxRecDepth 100000 in
theorem withSum_calls (t : Int) (base : Nat) (xs : List (List Int)) (v : Value) (W : World) (hS : Kd.S (Kd.slice 3 (Kd.int .i64)) 31 W base (fun _ => True) v xs) (hle : base ≤ W.heap.size) (ha : ∀ x ∈ xs, Ages x ∧ x.length ≤ 4) (hn : xs.length ≤ 200000) :
    Calls Tryz.prog 61 #[v, .int .i64 t] W fun e w' => ∃ v', e = .returned v' ∧ Kd.S (Kd.slice 3 (Kd.int .i64)) 31 w' base (fun _ => True) v' (xs.filter (hasSum t)) ∧ Below W.heap.size W w' := by
  obtain ⟨us, hs⟩ := Sep.of_S hS
  obtain ⟨A, c, rfl, hc, hC⟩ := hs.cells
  have hlu := hs.len
  have HL := Aside0.mk (fun W1 (h : Kd.C rawKd W1 A us.length us) => cloneRows.calls A c us us W1 h hc (by omega) rfl)
  have HS := Aside0.mk hs
  have HC := Aside0.mk hC
  have HLE := Aside0.mk hle
  have HD := Aside0.mk (fun (r : Nat) (v2 : Value) (W2 : World) hr hS2 => deleteFunc_G (fun t x => !hasSum t x) t (fun s A c r W ha h4 hcc hC hr => asks_other t s A c r W ha h4 hcc hC hr) r base xs v2 W2 hr hS2 ha hn)
  have HF := Aside0.mk (show (xs.filter fun x => !(!hasSum t x)) = xs.filter (hasSum t) by congr 1; funext x; simp)
  clear hs hC hle ha hn hlu hc hS
  go_enter Tryz.func61, Tryz.ntmps61
  go_wp2_with (first | (go_at_call 97; (with_reducible refine (HL.out _ ?hC).mono ?_); (case hC => exact Kd.C_below HC.out (below_alloc (Below.refl _ _) _)); rintro e w1 ⟨v1, rfl, hR, hb⟩; have HB1 := Aside0.mk (show Below W.heap.size W w1 from below_then (below_alloc (Below.refl _ _) _) (by simp) hb); have GR := Aside0.mk (blk_below (blk_new W _) hb); have HS2 := Aside0.mk (Sep.raw (D := fun _ => false) HS.out HB1.out (Nat.le_trans HLE.out (by simp)) hR (stayAt_none xs us HS.out.len)).to_S; have HBS := Aside0.mk (Kd.R_base hR); clear hR hb) | (go_at_call 78; (with_reducible refine (HD.out _ _ _ GR.out (by rw [← filter_none xs]; exact HS2.out)).mono ?_); rintro e w3 ⟨v3, rfl, hS3, hB3⟩; have HS3 := Aside0.mk hS3; have HB3 := Aside0.mk hB3; clear hS3 hB3))
  go_ret
  refine ⟨_, rfl, ?_, ?_⟩
  · rw [← HF.out]
    exact HS3.out
  · exact HB1.out.grown HB3.out HB1.out.size (fun k hk => Nat.le_trans (by simp) (HBS.out k hk))

end Go.Proofs.YtlbnhjeblknepaaGreat.E
-- WRITTEN by xprint.py, a program of this session that drives the kit's printer: out of the translation. Lean checks it.
namespace Go.Proofs.YtlbnhjeblknepaaGreat.E
open Go.RowKit Go.Proofs.YtlbnhjeblknepaaGreatW.PrintWords Go.Proofs.YtlbnhjeblknepaaGreatW.PrintLast
set_option linter.unusedVariables false
set_option linter.unusedSimpArgs false

/-! ### spec_agSum: function 66 -/
def spec_agSum.l0 : Nat → Int → List Int → Int → Int → Option (Int)
  | 0, _, _, _, _ => none
  | k + 1, x3, x6, x7, x8 => if x8 < x7 then (if 0 ≤ x8 then (if x8 < (x6.length : Int) then (spec_agSum.l0 k (wrap64 (x3 + (rd x6 x8))) x6 x7 (wrap64 (x8 + 1))) else (none)) else (none)) else (some x3)
def spec_agSum.f (k : Nat) (l0 : List Int) : Option (Int) := spec_agSum.l0 k 0 l0 (l0.length : Int) 0
theorem spec_agSum.mono_l : ∀ k, (∀ y0 y1 y2 y3, LeO (spec_agSum.l0 k y0 y1 y2 y3) (spec_agSum.l0 (k + 1) y0 y1 y2 y3))
  | 0 => fun _ _ _ _ r h => by simp [spec_agSum.l0] at h
  | k + 1 => by
    have ih0 := spec_agSum.mono_l k
    · intro y0 y1 y2 y3
      unfold spec_agSum.l0
      repeat' first
      | (with_reducible exact ih0 _ _ _ _)
      | (with_reducible exact LeO.refl _)
      | (with_reducible exact LeO.none _)
      | (with_reducible refine LeO.ite ?_ ?_)
      | (with_reducible refine LeO.bind ?_ (fun _ => ?_))
      | exact ih0 _ _ _ _
      | exact LeO.none _
      | refine LeO.ite ?_ ?_
      | refine LeO.bind ?_ (fun _ => ?_)
theorem spec_agSum.mono : ∀ a0 k, LeO (spec_agSum.f k a0) (spec_agSum.f (k + 1) a0) := by
  intro a0 k
  have ih0 := spec_agSum.mono_l k
  unfold spec_agSum.f
  repeat' first
      | (with_reducible exact ih0 _ _ _ _)
      | (with_reducible exact LeO.refl _)
      | (with_reducible exact LeO.none _)
      | (with_reducible refine LeO.ite ?_ ?_)
      | (with_reducible refine LeO.bind ?_ (fun _ => ?_))
      | exact ih0 _ _ _ _
      | exact LeO.none _
      | refine LeO.ite ?_ ?_
      | refine LeO.bind ?_ (fun _ => ?_)
set_option maxHeartbeats 8000000 in
set_option maxRecDepth 100000 in
theorem spec_agSum.calls (k : Nat) (A0 : Option Addr) (c0 : Nat) (l0 : List Int) (r : Int) (w : World) (hr0 : Kd.C (Kd.int .i64) w A0 l0.length l0) (hc0 : l0.length ≤ c0) (h : spec_agSum.f k l0 = some r) :
    Calls Tryz.prog 66 #[.slice A0 l0.length c0] w fun e w' => e = .returned (.int .i64 r) ∧ Drawn0 w w' := by
  have HR0 := Aside0.mk hr0
  have HC0 := Aside0.mk hc0
  clear hr0 hc0
  have H : (spec_agSum.l0 k 0 l0 (l0.length : Int) 0) = some r := h
  clear h
  have H' := Aside0.mk H
  clear H
  go_enter Tryz.func66, Tryz.ntmps66
  go_wp2
  go_loopg [3, 8] k (fun kq v3 v8 w' => ∃ (x3_1 : Int) (x8_1 : Int), v3 = .int .i64 x3_1 ∧ v8 = .int .i64 x8_1 ∧ Aside0 (spec_agSum.l0 kq x3_1 l0 (l0.length : Int) x8_1 = some r) ∧ Aside0 (kq ≤ k) ∧ Drawn0 w w')
  case atStart => exact ⟨(0), (0), (by first | rfl | (simp; done) | (simp [*]; done)), (by first | rfl | (simp; done) | (simp [*]; done)), H', ⟨Nat.le_refl _⟩, by repeat (first | exact Drawn0.refl _ | apply Drawn0.step)⟩
  case round =>
    clear H'
    obtain ⟨x3_1, x8_1, rfl, rfl, HA, HK1, ⟨m1, rfl⟩⟩ := hrel
    cases gk with
    | zero => exact absurd HA.out (by simp [spec_agSum.l0])
    | succ k1 =>
      have H := HA.out
      clear HA
      simp only [spec_agSum.l0] at H
      by_cases c2 : x8_1 < (l0.length : Int)
      · rw [if_pos c2] at H
        have c2b0 : decide (x8_1 < (l0.length : Int)) = true := decide_eq_true c2
        clear c2
        by_cases c3 : 0 ≤ x8_1
        · rw [if_pos c3] at H
          have c3b0 : decide (0 ≤ x8_1) = true := decide_eq_true c3
          clear c3
          by_cases c4 : x8_1 < (l0.length : Int)
          · rw [if_pos c4] at H
            have c4b0 : decide (x8_1 < (l0.length : Int)) = true := decide_eq_true c4
            clear c4
            have H' := Aside0.mk H
            clear H
            have p169 : 0 ≤ (x8_1 : Int) := of_decide_eq_true (by first | (with_reducible assumption) | assumption)
            have q169 : x8_1 < (l0.length : Int) := of_decide_eq_true (by first | (with_reducible assumption) | assumption)
            obtain ⟨ad169, e169, hx169_0⟩ := Kd.at_int HR0.out x8_1 p169 q169
            cases e169
            replace p169 := eq_true p169
            replace q169 := eq_true q169
            go_wp2
            go_roundg k1
            case measure => have := HK1.out; omega
            case rel => exact ⟨(wrap64 (x3_1 + (rd l0 x8_1))), (wrap64 (x8_1 + 1)), (by first | rfl | (simp; done) | (simp [*]; done)), (by first | rfl | (simp; done) | (simp [*]; done)), H', ⟨by have := HK1.out; omega⟩, by repeat (first | exact Drawn0.refl _ | apply Drawn0.step)⟩
          · rw [if_neg c4] at H
            exact absurd H (by simp)
        · rw [if_neg c3] at H
          exact absurd H (by simp)
      · rw [if_neg c2] at H
        have c2b0 : decide (x8_1 < (l0.length : Int)) = false := decide_eq_false c2
        clear c2
        obtain rfl := Option.some.inj H
        go_wp2
        go_ret
        exact ⟨by first | rfl | (simp; done) | (simp [*]; done), by repeat (first | exact Drawn0.refl _ | apply Drawn0.step)⟩

end Go.Proofs.YtlbnhjeblknepaaGreat.E
-- WRITTEN by xprint.py, a program of this session that drives the kit's printer: out of the translation. Lean checks it.
namespace Go.Proofs.YtlbnhjeblknepaaGreat.E
open Go.RowKit Go.Proofs.YtlbnhjeblknepaaGreatW.PrintWords Go.Proofs.YtlbnhjeblknepaaGreatW.PrintLast Go.Proofs.YtlbnhjeblknepaaGreatW.PrintMore
attribute [local go_sem] max2_int min2_int max_two min_two max_three min_three max_four min_four   -- for this text's walks alone
set_option linter.unusedVariables false
set_option linter.unusedSimpArgs false

-- OURS, BY HAND
/-! ### spec_siBoth: function 70 -/
-- func spec.siBoth
-- ext raw=1
-- needs spec.agSum
-- needs impl.withSum
-- needs impl.sets
theorem agSumOn (l : List Int) (hl : l.length ≤ 4) (ha : Ages l) : ∀ (n i : Nat) (acc : Int), i + n = l.length → 0 ≤ acc → acc ≤ 20 * i → spec_agSum.l0 (n + 1) acc l (l.length : Int) (i : Int) = some ((l.drop i).foldl (· + ·) acc) := by
  intro n
  induction n with
  | zero =>
    intro i acc hi h0 h1
    have : ¬ ((i : Int) < (l.length : Int)) := by omega
    rw [spec_agSum.l0, if_neg this, List.drop_of_length_le (by omega)]
    rfl
  | succ n ih =>
    intro i acc hi h0 h1
    have hlt : i < l.length := by omega
    have hr : rd l (i : Int) = l[i] := by simp [rd, List.getD, List.getElem?_eq_getElem hlt]
    have hx := ha l[i] (List.getElem_mem hlt)
    rw [spec_agSum.l0, if_pos (by omega), if_pos (by omega), if_pos (by omega), hr, wrap_small (acc + l[i]) (by omega) (by omega), wrap_small ((i : Int) + 1) (by omega) (by omega)]
    have := ih (i + 1) (acc + l[i]) (by omega) (by omega) (by omega)
    rw [List.drop_eq_getElem_cons hlt, List.foldl_cons]
    exact_mod_cast this
theorem agSum_is (l : List Int) (hl : l.length ≤ 4) (ha : Ages l) : spec_agSum.f (l.length + 1) l = some (sumL l) := by
  unfold spec_agSum.f
  exact agSumOn l hl ha l.length 0 0 (by omega) (by omega) (by simp)
theorem infoRowsF (w : World) : (Tryz.prog.info? 31).map (fun i => (i.zero, i.size, i.bytes)) = some (some (.slice none 0 0), (Kd.fixed (Kd.slice 3 (Kd.int .i64)) w).sz, 24) := infoRows
theorem take_succ_filter {α : Type} (q : α → Bool) (xs : List α) (k : Nat) (h : k < xs.length) : (xs.take (k + 1)).filter q = (xs.take k).filter q ++ if q xs[k] = true then [xs[k]] else [] := by
  rw [List.take_succ_eq_append_getElem h, List.filter_append]
  congr 1
  rw [List.filter_cons, List.filter_nil]
set_option maxHeartbeats 8000000 in
set_option maxRecDepth 100000 in
theorem siBoth_calls (t : Int) (A : Option Addr) (c : Nat) (xs : List (List Int)) (W : World) (hC : Kd.C (Kd.slice 3 (Kd.int .i64)) W A xs.length xs) (hc : xs.length ≤ c) (ha : ∀ x ∈ xs, Ages x ∧ x.length ≤ 4) (hn : xs.length ≤ 200000) :
    Calls Tryz.prog 70 #[.slice A xs.length c, .int .i64 t] W fun e w' => ∃ A' c', e = .returned (.slice A' (xs.filter (hasSum t)).length c') ∧ (xs.filter (hasSum t)).length ≤ c' ∧ Kd.C (Kd.slice 3 (Kd.int .i64)) w' A' (xs.filter (hasSum t)).length (xs.filter (hasSum t)) ∧ Below W.heap.size W w' := by
  have HC := Aside0.mk hC
  have HA := Aside0.mk ha
  have HSM := Aside0.mk (fun (x : List Int) (hx : x ∈ xs) (A1 : Option Addr) (c1 : Nat) (w : World) (h : (Kd.int .i64).C w A1 x.length x) (h1 : x.length ≤ c1) => spec_agSum.calls _ A1 c1 x _ w h h1 (agSum_is x (ha x hx).2 (ha x hx).1))
  clear hC ha
  go_enter Tryz.func70, Tryz.ntmps70
  go_wp2
  go_loopw [5, 10] (fun v5 v10 wr => ∃ k : Nat, k ≤ xs.length ∧ v10 = .int .i64 (k : Int) ∧ Aside0 ((Kd.fixed (Kd.slice 3 (Kd.int .i64)) W).R 31 wr W.heap.size (fun _ => True) v5 ((xs.take k).filter (hasSum t))) ∧ Aside0 (Below W.heap.size W wr)) (fun _ v10 _ => xs.length - (intOf v10).toNat)
  case atStart => exact ⟨0, Nat.zero_le _, rfl, ⟨Kd.R_nil _ _ _ _ _⟩, ⟨Below.refl _ _⟩⟩
  case round =>
    obtain ⟨k, hk, rfl, HR, HB⟩ := hrel
    by_cases hlt : k < xs.length
    · have hlt1 : decide ((k : Int) < (xs.length : Int)) = true := decide_eq_true (by omega)
      obtain ⟨ad, rfl, cs, hcs, ⟨A1, c1, rfl, h1, hC1⟩, hcell⟩ : ∃ ad, A = some ad ∧ ∃ cs, cs.length = 1 ∧ (Kd.slice 3 (Kd.int .i64)).K W xs[k] cs ∧ ∀ i u, cs[i]? = some u → W.cell? (ad.add (k * 1 + i)) = some u := by
        obtain ⟨ad, e, hh⟩ := HC.out.2.2 (by omega)
        obtain ⟨cs, q1, q2, q3⟩ := hh k xs[k] (List.getElem?_eq_getElem hlt)
        exact ⟨ad, e, cs, q1, q2, q3⟩
      have hx0 : wr.cell? (ad.add k) = some (.slice A1 xs[k].length c1) := by
        have := hcell 0 _ rfl
        rw [Nat.mul_one, Nat.add_zero] at this
        exact pw_cell_below HB.out this
      have HCa := Aside0.mk (HSM.out xs[k] (List.getElem_mem hlt) A1 c1 wr (Kd.C_below hC1 HB.out) h1)
      have HK1 := Aside0.mk (show (Kd.slice 3 (Kd.int .i64)).K W xs[k] [.slice A1 xs[k].length c1] from ⟨A1, c1, rfl, h1, hC1⟩)
      have HTS := Aside0.mk (take_succ_filter (hasSum t) xs k hlt)
      have hfl := Nat.le_trans (List.length_filter_le (hasSum t) (xs.take k)) (by rw [List.length_take]; exact Nat.min_le_right _ _)
      have HFL := Aside0.mk hfl
      clear hcell hC1 hcs
      cases hq : hasSum t xs[k] with
      | true =>
        rw [hq, if_pos rfl] at HTS
        have hq1 : (sumL xs[k] == t) = true := by rw [← hq]; rfl
        obtain ⟨Ao, co, rfl⟩ := Kd.R_slice HR.out
        clear hq hfl
        go_wp2_with (first | (go_at_call 66; (with_reducible refine HCa.out.mono ?_); rintro e w' ⟨rfl, ⟨nd, rfl⟩⟩) | ((with_reducible refine gate_builtin (b := .append) (xs := #[.tmp 18, .tmp 20]) rfl ?_); at_builtin; refine Kd.R_append (Kd.fixed (Kd.slice 3 (Kd.int .i64)) W) (w0 := W) W.heap.size rfl (.tmp 18) (.tmp 20) 26 31 (.slice none 0 0) 24 rfl Tryz.underlying26 (infoRowsF W) rfl Nat.zero_lt_one (by omega) (.slice Ao ((xs.take k).filter (hasSum t)).length co) ((xs.take k).filter (hasSum t)) xs[k] [.slice A1 xs[k].length c1] (fun _ => True) (fun _ => False) rfl rfl ?aP (fun _ h => h.elim) (fun _ _ => trivial) ?aO ?aB ?aS ?aL ?_; (case aP => exact HK1.out); (case aO => exact Kd.R_drewN HR.out nd); (case aB => exact pw_below_drewN HB.out nd); (case aS => exact (pw_below_drewN HB.out nd).size); (case aL => have := HFL.out; omega); intro v1 w1 ho hb hg hat; have HO := Aside0.mk ho; have HB1 := Aside0.mk hb; clear ho hb hg hat))
        go_roundw
        case rel => exact ⟨k + 1, by omega, by go_num, ⟨by rw [HTS.out]; exact HO.out⟩, HB1⟩
        case measure => simp [intOf]; omega
      | false =>
        rw [hq, if_neg (by simp), List.append_nil] at HTS
        have hq1 : (sumL xs[k] == t) = false := by rw [← hq]; rfl
        clear hq hfl
        go_wp2_with (go_at_call 66; (with_reducible refine HCa.out.mono ?_); rintro e w' ⟨rfl, ⟨nd, rfl⟩⟩)
        go_roundw
        case rel => exact ⟨k + 1, by omega, by go_num, ⟨by rw [HTS.out]; exact Kd.R_drewN HR.out nd⟩, ⟨pw_below_drewN HB.out nd⟩⟩
        case measure => simp [intOf]; omega
    · obtain rfl : k = xs.length := by omega
      rw [List.take_length] at HR
      obtain ⟨A', c', rfl, h1, h2⟩ := Kd.R_reads HR.out
      have H2 := Aside0.mk h2
      clear h2
      go_wp2
      go_ret
      exact ⟨A', c', rfl, h1, ReadsRow.imp_ H2.out (Below.refl _ _) (fun _ _ hp => (Kd.slice 3 (Kd.int .i64)).K_below HB.out hp), HB.out⟩
def okSets (l : List (List Int)) : Bool := decide (l.length ≤ 200000) && l.all fun x => decide (x.length ≤ 4) && x.all fun y => decide (1 ≤ y) && decide (y ≤ 20)
theorem okSets_len {l : List (List Int)} (h : okSets l = true) : l.length ≤ 200000 := by
  unfold okSets at h
  exact of_decide_eq_true (Bool.and_eq_true_iff.1 h).1
theorem okSets_ages {l : List (List Int)} (h : okSets l = true) : ∀ x ∈ l, Ages x ∧ x.length ≤ 4 := by
  unfold okSets at h
  intro x hx
  have := List.all_eq_true.1 (Bool.and_eq_true_iff.1 h).2 x hx
  obtain ⟨h1, h2⟩ := Bool.and_eq_true_iff.1 this
  refine ⟨fun y hy => ?_, of_decide_eq_true h1⟩
  have := List.all_eq_true.1 h2 y hy
  obtain ⟨h3, h4⟩ := Bool.and_eq_true_iff.1 this
  exact ⟨of_decide_eq_true h3, of_decide_eq_true h4⟩

end Go.Proofs.YtlbnhjeblknepaaGreat.E
-- WRITTEN by xprint.py, a program of this session that drives the kit's printer: out of the translation. Lean checks it.
namespace Go.Proofs.YtlbnhjeblknepaaGreat.E
open Go.RowKit Go.Proofs.YtlbnhjeblknepaaGreatW.PrintWords Go.Proofs.YtlbnhjeblknepaaGreatW.PrintLast
set_option linter.unusedVariables false
set_option linter.unusedSimpArgs false

/-! ### spec_siOldest: function 76 -/
def spec_siOldest.f (l0 : List Int) : Option (Bool) := if (wrap64 ((l0.length : Int) - 1)) = 0 then (some true) else (if 0 ≤ (wrap64 ((l0.length : Int) - 1)) then (if (wrap64 ((l0.length : Int) - 1)) < (l0.length : Int) then (if 0 ≤ (wrap64 ((wrap64 ((l0.length : Int) - 1)) - 1)) then (if (wrap64 ((wrap64 ((l0.length : Int) - 1)) - 1)) < (l0.length : Int) then (some (decide ((rd l0 (wrap64 ((l0.length : Int) - 1))) > (rd l0 (wrap64 ((wrap64 ((l0.length : Int) - 1)) - 1)))))) else (none)) else (none)) else (none)) else (none))
set_option maxHeartbeats 8000000 in
set_option maxRecDepth 100000 in
theorem spec_siOldest.calls (A0 : Option Addr) (c0 : Nat) (l0 : List Int) (r : Bool) (w : World) (hr0 : Kd.C (Kd.int .i64) w A0 l0.length l0) (hc0 : l0.length ≤ c0) (h : spec_siOldest.f l0 = some r) :
    Calls Tryz.prog 76 #[.slice A0 l0.length c0] w fun e w' => e = .returned (.bool r) ∧ Drawn0 w w' := by
  have HR0 := Aside0.mk hr0
  have HC0 := Aside0.mk hc0
  clear hr0 hc0
  have H : (if (wrap64 ((l0.length : Int) - 1)) = 0 then (some true) else (if 0 ≤ (wrap64 ((l0.length : Int) - 1)) then (if (wrap64 ((l0.length : Int) - 1)) < (l0.length : Int) then (if 0 ≤ (wrap64 ((wrap64 ((l0.length : Int) - 1)) - 1)) then (if (wrap64 ((wrap64 ((l0.length : Int) - 1)) - 1)) < (l0.length : Int) then (some (decide ((rd l0 (wrap64 ((l0.length : Int) - 1))) > (rd l0 (wrap64 ((wrap64 ((l0.length : Int) - 1)) - 1)))))) else (none)) else (none)) else (none)) else (none))) = some r := h
  clear h
  by_cases c2 : (wrap64 ((l0.length : Int) - 1)) = 0
  · rw [if_pos c2] at H
    have c2b0 : ((wrap64 ((l0.length : Int) - 1)) == 0) = true := beq_iff_eq.mpr c2
    have c2b1 : ((wrap64 ((l0.length : Int) - 1)) != 0) = false := bne_eq_false_iff_eq.mpr c2
    clear c2
    obtain rfl := Option.some.inj H
    go_enter Tryz.func76, Tryz.ntmps76
    go_wp2
    repeat (go_quiet (fail); try go_wp2)
    go_ret
    exact ⟨by first | rfl | (simp; done) | (simp [*]; done), by repeat (first | exact Drawn0.refl _ | apply Drawn0.step)⟩
  · rw [if_neg c2] at H
    have c2b0 : ((wrap64 ((l0.length : Int) - 1)) == 0) = false := beq_eq_false_iff_ne.mpr c2
    have c2b1 : ((wrap64 ((l0.length : Int) - 1)) != 0) = true := bne_iff_ne.mpr c2
    obtain ⟨ji3, hji3⟩ : ∃ j_ : Int, (wrap64 ((l0.length : Int) - 1)) = j_ := ⟨_, rfl⟩
    replace H : (if 0 ≤ (ji3) then (if (ji3) < (l0.length : Int) then (if 0 ≤ (wrap64 ((ji3) - 1)) then (if (wrap64 ((ji3) - 1)) < (l0.length : Int) then (some (decide ((rd l0 (ji3)) > (rd l0 (wrap64 ((ji3) - 1)))))) else (none)) else (none)) else (none)) else (none)) = some r := by first | (rw [hji3] at H; exact H) | (simp only [hji3] at H ⊢; exact H)
    (try rw [hji3] at c2b0)
    (try rw [hji3] at c2b1)
    have hji3w : (IntKind.i64.wrap ((l0.length : Int) - 1)) = ji3 := (i64_w _).trans hji3
    by_cases c4 : 0 ≤ (ji3)
    · rw [if_pos c4] at H
      have c4b0 : decide (0 ≤ (ji3)) = true := decide_eq_true c4
      clear c4
      by_cases c5 : (ji3) < (l0.length : Int)
      · rw [if_pos c5] at H
        have c5b0 : decide ((ji3) < (l0.length : Int)) = true := decide_eq_true c5
        clear c5
        obtain ⟨ji6, hji6⟩ : ∃ j_ : Int, (wrap64 ((ji3) - 1)) = j_ := ⟨_, rfl⟩
        replace H : (if 0 ≤ (ji6) then (if (ji6) < (l0.length : Int) then (some (decide ((rd l0 (ji3)) > (rd l0 (ji6))))) else (none)) else (none)) = some r := by first | (rw [hji6] at H; exact H) | (simp only [hji6] at H ⊢; exact H)
        have hji6w : (IntKind.i64.wrap ((ji3) - 1)) = ji6 := (i64_w _).trans hji6
        by_cases c7 : 0 ≤ (ji6)
        · rw [if_pos c7] at H
          have c7b0 : decide (0 ≤ (ji6)) = true := decide_eq_true c7
          clear c7
          by_cases c8 : (ji6) < (l0.length : Int)
          · rw [if_pos c8] at H
            have c8b0 : decide ((ji6) < (l0.length : Int)) = true := decide_eq_true c8
            clear c8
            obtain rfl := Option.some.inj H
            have p170 : 0 ≤ ((ji3) : Int) := of_decide_eq_true (by first | (with_reducible assumption) | assumption)
            have q170 : (ji3) < (l0.length : Int) := of_decide_eq_true (by first | (with_reducible assumption) | assumption)
            obtain ⟨ad170, e170, hx170_0⟩ := Kd.at_int HR0.out (ji3) p170 q170
            cases e170
            replace p170 := eq_true p170
            replace q170 := eq_true q170
            have p171 : 0 ≤ ((ji6) : Int) := of_decide_eq_true (by first | (with_reducible assumption) | assumption)
            have q171 : (ji6) < (l0.length : Int) := of_decide_eq_true (by first | (with_reducible assumption) | assumption)
            obtain ⟨ad171, e171, hx171_0⟩ := Kd.at_int HR0.out (ji6) p171 q171
            obtain rfl : ad170 = ad171 := (by injection e171)
            replace p171 := eq_true p171
            replace q171 := eq_true q171
            go_enter Tryz.func76, Tryz.ntmps76
            go_wp2
            repeat (go_quiet (fail); try go_wp2)
            go_ret
            exact ⟨by first | rfl | (simp; done) | (simp only [← hji3, ← hji6] <;> (first | rfl | simp)) | (simp [*]; done), by repeat (first | exact Drawn0.refl _ | apply Drawn0.step)⟩
          · rw [if_neg c8] at H
            exact absurd H (by simp)
        · rw [if_neg c7] at H
          exact absurd H (by simp)
      · rw [if_neg c5] at H
        exact absurd H (by simp)
    · rw [if_neg c4] at H
      exact absurd H (by simp)

/-! ### spec_siYoungest: function 77 -/
def spec_siYoungest.f (l0 : List Int) : Option (Bool) := if (l0.length : Int) = 1 then (some true) else (if 0 < (l0.length : Int) then (if 1 < (l0.length : Int) then (some (decide ((rd l0 0) < (rd l0 1)))) else (none)) else (none))
set_option maxHeartbeats 8000000 in
set_option maxRecDepth 100000 in
theorem spec_siYoungest.calls (A0 : Option Addr) (c0 : Nat) (l0 : List Int) (r : Bool) (w : World) (hr0 : Kd.C (Kd.int .i64) w A0 l0.length l0) (hc0 : l0.length ≤ c0) (h : spec_siYoungest.f l0 = some r) :
    Calls Tryz.prog 77 #[.slice A0 l0.length c0] w fun e w' => e = .returned (.bool r) ∧ Drawn0 w w' := by
  have HR0 := Aside0.mk hr0
  have HC0 := Aside0.mk hc0
  clear hr0 hc0
  have H : (if (l0.length : Int) = 1 then (some true) else (if 0 < (l0.length : Int) then (if 1 < (l0.length : Int) then (some (decide ((rd l0 0) < (rd l0 1)))) else (none)) else (none))) = some r := h
  clear h
  by_cases c2 : (l0.length : Int) = 1
  · rw [if_pos c2] at H
    have c2b0 : ((l0.length : Int) == 1) = true := beq_iff_eq.mpr c2
    have c2b1 : ((l0.length : Int) != 1) = false := bne_eq_false_iff_eq.mpr c2
    clear c2
    obtain rfl := Option.some.inj H
    go_enter Tryz.func77, Tryz.ntmps77
    go_wp2
    repeat (go_quiet (fail); try go_wp2)
    go_ret
    exact ⟨by first | rfl | (simp; done) | (simp [*]; done), by repeat (first | exact Drawn0.refl _ | apply Drawn0.step)⟩
  · rw [if_neg c2] at H
    have c2b0 : ((l0.length : Int) == 1) = false := beq_eq_false_iff_ne.mpr c2
    have c2b1 : ((l0.length : Int) != 1) = true := bne_iff_ne.mpr c2
    by_cases c3 : 0 < (l0.length : Int)
    · rw [if_pos c3] at H
      have c3b0 : decide (0 < (l0.length : Int)) = true := decide_eq_true c3
      have c3b1 : decide (0 < l0.length) = true := decide_eq_true (by omega)
      clear c3
      by_cases c4 : 1 < (l0.length : Int)
      · rw [if_pos c4] at H
        have c4b0 : decide (1 < (l0.length : Int)) = true := decide_eq_true c4
        have c4b1 : decide (1 < l0.length) = true := decide_eq_true (by omega)
        clear c4
        obtain rfl := Option.some.inj H
        have p172 : 0 ≤ (0 : Int) := (by omega)
        have q172 : 0 < (l0.length : Int) := of_decide_eq_true (by first | (with_reducible assumption) | assumption)
        obtain ⟨ad172, e172, hx172_0⟩ := Kd.at_int HR0.out 0 p172 q172
        cases e172
        have qi172 : (0 < l0.length) = True := eq_true (by omega)
        (try rw [show ((0 : Int)).toNat = 0 from rfl] at hx172_0)
        (try rw [Addr.add_zero'] at hx172_0)
        replace p172 := eq_true p172
        replace q172 := eq_true q172
        have p173 : 0 ≤ (1 : Int) := (by omega)
        have q173 : 1 < (l0.length : Int) := of_decide_eq_true (by first | (with_reducible assumption) | assumption)
        obtain ⟨ad173, e173, hx173_0⟩ := Kd.at_int HR0.out 1 p173 q173
        obtain rfl : ad172 = ad173 := (by injection e173)
        (try simp only [show (1 : Int).toNat = 1 from rfl, Nat.reduceMul, Nat.reduceEqDiff, Go.Addr.add, ↓reduceIte] at hx173_0)
        have qi173 : (1 < l0.length) = True := eq_true (by omega)
        (try rw [show ((1 : Int)).toNat = 1 from rfl] at hx173_0)
        replace p173 := eq_true p173
        replace q173 := eq_true q173
        go_enter Tryz.func77, Tryz.ntmps77
        go_wp2
        repeat (go_quiet (fail); try go_wp2)
        go_ret
        exact ⟨by first | rfl | (simp; done) | (simp [*]; done), by repeat (first | exact Drawn0.refl _ | apply Drawn0.step)⟩
      · rw [if_neg c4] at H
        exact absurd H (by simp)
    · rw [if_neg c3] at H
      exact absurd H (by simp)

end Go.Proofs.YtlbnhjeblknepaaGreat.E
-- WRITTEN by xprint.py, a program of this session that drives the kit's printer: out of the translation. Lean checks it.
namespace Go.Proofs.YtlbnhjeblknepaaGreat.E
open Go.RowKit Go.Proofs.YtlbnhjeblknepaaGreatW.PrintWords Go.Proofs.YtlbnhjeblknepaaGreatW.PrintLast Go.Proofs.YtlbnhjeblknepaaGreatW.PrintMore
attribute [local go_sem] max2_int min2_int max_two min_two max_three min_three max_four min_four   -- for this text's walks alone
set_option linter.unusedVariables false
set_option linter.unusedSimpArgs false

-- OURS, BY HAND
/-! ### spec_siTold: function 46 -/
-- func spec.siTold
-- ext raw=1
-- needs spec.siBoth
-- needs spec.agSum
-- needs spec.siOldest
-- needs spec.siYoungest
-- needs impl.sets
-- needs impl.hasOldest
-- needs impl.hasYoungest
-- needs impl.withSum
-- import Derived.WalkKit
-- import Derived.Deep.RegionWith
-- import Derived.Deep.RegionLaw
-- import Derived.IntWalk
-- import Derived.WalkSpells
-- import Derived.Lib.SliceRun
def oldB (s : List Int) : Bool := decide ((s.length : Int) = 1) || decide (rd s ((s.length : Int) - 1) > rd s ((s.length : Int) - 2))
def youngB (s : List Int) : Bool := decide ((s.length : Int) = 1) || decide (rd s 0 < rd s 1)
def ageB (b : Bool) (s : List Int) : Bool := if b = true then oldB s else youngB s
theorem siOldest_val (s : List Int) (h1 : 1 ≤ s.length) (h4 : s.length ≤ 4) : spec_siOldest.f s = some (oldB s) := by
  unfold spec_siOldest.f oldB
  rw [wrap_small ((s.length : Int) - 1) (by omega) (by omega), wrap_small ((s.length : Int) - 1 - 1) (by omega) (by omega)]
  by_cases h : (s.length : Int) = 1
  · rw [if_pos (by omega), decide_eq_true h]; rfl
  · rw [if_neg (by omega), if_pos (by omega), if_pos (by omega), if_pos (by omega), if_pos (by omega), decide_eq_false h, Bool.false_or, show (s.length : Int) - 1 - 1 = (s.length : Int) - 2 by omega]
theorem hasOldest_val (s : List Int) (h1 : 1 ≤ s.length) (h4 : s.length ≤ 4) : impl_hasOldest.f s = some (oldB s) := by
  unfold impl_hasOldest.f oldB
  rw [wrap_small ((s.length : Int) - 1) (by omega) (by omega), wrap_small ((s.length : Int) - 2) (by omega) (by omega)]
  by_cases h : (s.length : Int) = 1
  · rw [if_pos h, decide_eq_true h]; rfl
  · rw [if_neg h, if_pos (by omega), if_pos (by omega), if_pos (by omega), if_pos (by omega), decide_eq_false h, Bool.false_or]
theorem siYoungest_val (s : List Int) (h1 : 1 ≤ s.length) (h4 : s.length ≤ 4) : spec_siYoungest.f s = some (youngB s) := by
  unfold spec_siYoungest.f youngB
  by_cases h : (s.length : Int) = 1
  · rw [if_pos h, decide_eq_true h]; rfl
  · rw [if_neg h, if_pos (by omega), if_pos (by omega), decide_eq_false h, Bool.false_or]
theorem hasYoungest_val (s : List Int) (h1 : 1 ≤ s.length) (h4 : s.length ≤ 4) : impl_hasYoungest.f s = some (youngB s) := by
  unfold impl_hasYoungest.f youngB
  by_cases h : (s.length : Int) = 1
  · rw [if_pos h, decide_eq_true h]; rfl
  · rw [if_neg h, if_pos (by omega), if_pos (by omega), decide_eq_false h, Bool.false_or]
/-- Is a set told by an open sum and such a child. -/
def isTold (b : Bool) (xs : List (List Int)) (s : List Int) : Bool := decide (1 < (xs.filter (hasSum (sumL s))).length) && (decide (((xs.filter (hasSum (sumL s))).filter (ageB b)).length = 1) && ageB b s)
def toldS (b : Bool) (xs : List (List Int)) : List (List Int) := xs.filter (isTold b xs)
theorem age_true (s : List Int) : ageB true s = oldB s := rfl
theorem age_false (s : List Int) : ageB false s = youngB s := rfl
set_option maxHeartbeats 16000000 in
theorem siTold_true (A : Option Addr) (c : Nat) (xs : List (List Int)) (W : World) (hC : Kd.C (Kd.slice 3 (Kd.int .i64)) W A xs.length xs) (hc : xs.length ≤ c) (ha : ∀ x ∈ xs, Ages x ∧ x.length ≤ 4) (h1 : ∀ x ∈ xs, 1 ≤ x.length) (hn : xs.length ≤ 200000) :
    Calls Tryz.prog 46 #[.slice A xs.length c, .bool true] W fun e w' => ∃ A' c', e = .returned (.slice A' (toldS true xs).length c') ∧ (toldS true xs).length ≤ c' ∧ Kd.C (Kd.slice 3 (Kd.int .i64)) w' A' (toldS true xs).length (toldS true xs) ∧ Below W.heap.size W w' := by
  have HC := Aside0.mk hC
  have HA := Aside0.mk ha
  have H1 := Aside0.mk h1
  have HCC := Aside0.mk hc
  have HSM := Aside0.mk (fun (x : List Int) (hx : x ∈ xs) (A1 : Option Addr) (c1 : Nat) (w : World) (h : (Kd.int .i64).C w A1 x.length x) (h1 : x.length ≤ c1) => spec_agSum.calls _ A1 c1 x _ w h h1 (agSum_is x (ha x hx).2 (ha x hx).1))
  have HSB := Aside0.mk (fun (t : Int) (w : World) (h : Kd.C (Kd.slice 3 (Kd.int .i64)) w A xs.length xs) => siBoth_calls t A c xs w h hc ha hn)
  have HAG := Aside0.mk (fun (x : List Int) (hx : x ∈ xs) (A1 : Option Addr) (c1 : Nat) (w : World) (h : (Kd.int .i64).C w A1 x.length x) (hcc : x.length ≤ c1) => spec_siOldest.calls A1 c1 x _ w h hcc (siOldest_val x (h1 x hx) (ha x hx).2))
  clear hC ha h1
  go_enter Tryz.func46, Tryz.ntmps46
  go_wp2
  go_loopw [5, 14] (fun v5 v14 wr => ∃ k : Nat, k ≤ xs.length ∧ v14 = .int .i64 (k : Int) ∧ Aside0 ((Kd.fixed (Kd.slice 3 (Kd.int .i64)) W).R 31 wr W.heap.size (fun _ => True) v5 ((xs.take k).filter (isTold true xs))) ∧ Aside0 (Below W.heap.size W wr)) (fun _ v14 _ => xs.length - (intOf v14).toNat)
  case atStart => exact ⟨0, Nat.zero_le _, rfl, ⟨Kd.R_nil _ _ _ _ _⟩, ⟨Below.refl _ _⟩⟩
  case round =>
    obtain ⟨k, hk, rfl, HR, HB⟩ := hrel
    by_cases hlt : k < xs.length
    · have hlt1 : decide ((k : Int) < (xs.length : Int)) = true := decide_eq_true (by omega)
      obtain ⟨Ao, co, rfl⟩ := Kd.R_slice HR.out
      obtain ⟨ad, rfl, cs, hcs, ⟨A1, c1, rfl, h1, hC1⟩, hcell⟩ : ∃ ad, A = some ad ∧ ∃ cs, cs.length = 1 ∧ (Kd.slice 3 (Kd.int .i64)).K W xs[k] cs ∧ ∀ i u, cs[i]? = some u → W.cell? (ad.add (k * 1 + i)) = some u := by
        obtain ⟨ad, e, hh⟩ := HC.out.2.2 (by omega)
        obtain ⟨cs, q1, q2, q3⟩ := hh k xs[k] (List.getElem?_eq_getElem hlt)
        exact ⟨ad, e, cs, q1, q2, q3⟩
      have hx0 : wr.cell? (ad.add k) = some (.slice A1 xs[k].length c1) := by
        have := hcell 0 _ rfl
        rw [Nat.mul_one, Nat.add_zero] at this
        exact pw_cell_below HB.out this
      have HCa := Aside0.mk (HSM.out xs[k] (List.getElem_mem hlt) A1 c1 wr (Kd.C_below hC1 HB.out) h1)
      have HAK := Aside0.mk (fun (w : World) (hb : Below W.heap.size W w) => HAG.out xs[k] (List.getElem_mem hlt) A1 c1 w (Kd.C_below hC1 hb) h1)
      have HK1 := Aside0.mk (show (Kd.slice 3 (Kd.int .i64)).K W xs[k] [.slice A1 xs[k].length c1] from ⟨A1, c1, rfl, h1, hC1⟩)
      have HTS := Aside0.mk (take_succ_filter (isTold true xs) xs k hlt)
      have hfl := Nat.le_trans (List.length_filter_le (isTold true xs) (xs.take k)) (by rw [List.length_take]; exact Nat.min_le_right _ _)
      have HFL := Aside0.mk hfl
      obtain ⟨x, hx⟩ : ∃ x, x = xs[k] := ⟨_, rfl⟩
      obtain ⟨both, hboth⟩ : ∃ both, both = xs.filter (hasSum (sumL x)) := ⟨_, rfl⟩
      have HBO := Aside0.mk hboth
      have hIT : isTold true xs x = (decide (1 < both.length) && (decide ((both.filter oldB).length = 1) && oldB x)) := by rw [hboth]; rfl
      have HIT := Aside0.mk hIT
      have hbl : both.length ≤ 200000 := by rw [hboth]; exact Nat.le_trans (List.length_filter_le _ _) hn
      have HBM := Aside0.mk (show ∀ y ∈ both, y ∈ xs from fun y hy => by rw [hboth] at hy; exact (List.mem_filter.1 hy).1)
      have HSK := Aside0.mk (fun w h => by have q := HSB.out (sumL x) w h; rw [← hboth] at q; exact q)
      rw [← hx] at hx0 HCa HAK HK1 HTS
      clear hcell hC1 hcs hfl hIT hboth hx
      go_wp2_with (first | (go_at_call 66; (with_reducible refine HCa.out.mono ?_); rintro e w' ⟨rfl, ⟨nd, rfl⟩⟩) | (go_at_call 70; (with_reducible refine (HSK.out _ (Kd.C_below HC.out (pw_below_drewN HB.out nd))).mono ?_); rintro e w2 ⟨A2, c2, rfl, q2, hC2, hb2⟩; have HC2 := Aside0.mk hC2; have HB2 := Aside0.mk (show Below W.heap.size W w2 from below_step (pw_below_drewN HB.out nd) hb2); have HR2 := Aside0.mk (Kd.R_below (Kd.R_drewN HR.out nd) hb2); clear hC2 hb2))
      go_loopw [8, 24] (fun v8 v24 wr => ∃ i : Nat, i ≤ both.length ∧ v24 = .int .i64 (i : Int) ∧ v8 = .int .i64 ((((both.take i).filter oldB).length : Nat) : Int) ∧ Aside0 (Kd.C (Kd.slice 3 (Kd.int .i64)) wr A2 both.length both) ∧ Aside0 ((Kd.fixed (Kd.slice 3 (Kd.int .i64)) W).R 31 wr W.heap.size (fun _ => True) (.slice Ao ((xs.take k).filter (isTold true xs)).length co) ((xs.take k).filter (isTold true xs))) ∧ Aside0 (Below W.heap.size W wr)) (fun _ v24 _ => both.length - (intOf v24).toNat)
      case atStart => exact ⟨0, Nat.zero_le _, rfl, rfl, HC2, HR2, HB2⟩
      case round =>
        clear HR HB hx0 HCa
        obtain ⟨i, hi, rfl, rfl, HC3, HR3, HB3⟩ := hrel
        by_cases hil : i < both.length
        · have hil1 : decide ((i : Int) < (both.length : Int)) = true := decide_eq_true (by omega)
          obtain ⟨ad2, rfl, A3, c3, hy0, h3, hC4⟩ : ∃ ad2, A2 = some ad2 ∧ ∃ A3 c3, wr.cell? (ad2.add i) = some (.slice A3 both[i].length c3) ∧ both[i].length ≤ c3 ∧ (Kd.int .i64).C wr A3 both[i].length both[i] := by
            obtain ⟨ad2, e, hh⟩ := HC3.out.2.2 (by omega)
            obtain ⟨cs, q1, ⟨A3, c3, rfl, q4, q5⟩, q3⟩ := hh i both[i] (List.getElem?_eq_getElem hil)
            have this : wr.cell? (ad2.add (i * 1 + 0)) = some (.slice A3 both[i].length c3) := q3 0 _ rfl
            rw [Nat.mul_one, Nat.add_zero] at this
            exact ⟨ad2, e, A3, c3, this, q4, q5⟩
          have HAI := Aside0.mk (HAG.out both[i] (HBM.out _ (List.getElem_mem hil)) A3 c3 wr hC4 h3)
          have HT2 := Aside0.mk (take_succ_filter oldB both i hil)
          obtain ⟨m, hm⟩ : ∃ m, m = ((both.take i).filter oldB).length := ⟨_, rfl⟩
          have hm2 : m ≤ 200000 := by rw [hm]; exact Nat.le_trans (List.length_filter_le _ _) (by rw [List.length_take]; omega)
          have HMM := Aside0.mk hm
          obtain ⟨y, hy⟩ : ∃ y, y = both[i] := ⟨_, rfl⟩
          rw [← hy] at hy0 HAI HT2
          rw [← hm]
          clear hC4 hm hy
          cases hq : oldB y with
          | true =>
            rw [hq] at HAI HT2
            rw [if_pos rfl] at HT2
            clear hq
            go_wp2_with (go_at_call 76; (with_reducible refine HAI.out.mono ?_); rintro e w' ⟨rfl, ⟨nd2, rfl⟩⟩)
            go_roundw
            case rel => exact ⟨i + 1, by omega, by go_num, by rw [HT2.out, List.length_append, ← HMM.out]; rfl, ⟨Kd.C_drewN HC3.out _⟩, ⟨Kd.R_drewN HR3.out _⟩, ⟨pw_below_drewN HB3.out _⟩⟩
            case measure => simp [intOf]; omega
          | false =>
            rw [hq] at HAI HT2
            rw [if_neg (by simp), List.append_nil] at HT2
            clear hq
            go_wp2_with (go_at_call 76; (with_reducible refine HAI.out.mono ?_); rintro e w' ⟨rfl, ⟨nd2, rfl⟩⟩)
            go_roundw
            case rel => exact ⟨i + 1, by omega, by go_num, by rw [HT2.out, ← HMM.out], ⟨Kd.C_drewN HC3.out _⟩, ⟨Kd.R_drewN HR3.out _⟩, ⟨pw_below_drewN HB3.out _⟩⟩
            case measure => simp [intOf]; omega
        · obtain rfl : i = both.length := by omega
          have hil1 : decide ((both.length : Int) < (both.length : Int)) = false := decide_eq_false (by omega)
          rw [List.take_length]
          obtain ⟨m, hm⟩ : ∃ m, m = (both.filter oldB).length := ⟨_, rfl⟩
          have hit := HIT.out
          rw [← hm] at hit ⊢
          obtain ⟨n, hnn⟩ : ∃ n, n = both.length := ⟨_, rfl⟩
          rw [← hnn] at hit hil1 hbl ⊢
          have HN2 := Aside0.mk hnn
          have HAX := Aside0.mk (fun w hb => HAK.out w hb)
          clear hm hnn hi hil
          have stay : isTold true xs x = false → (xs.take (k + 1)).filter (isTold true xs) = (xs.take k).filter (isTold true xs) := fun h => by rw [HTS.out, h, if_neg (by simp), List.append_nil]
          have HST := Aside0.mk stay
          clear stay
          by_cases g1 : 1 < n
          · have d1 : decide ((n : Int) > 1) = true := decide_eq_true (by omega)
            have d1' : decide (1 < n) = true := decide_eq_true g1
            by_cases g2 : m = 1
            · have d2 : ((m : Int) == 1) = true := by simp; omega
              have d2' : (m == 1) = true := by simp; omega
              rw [d1', decide_eq_true g2, Bool.true_and, Bool.true_and] at hit
              cases hq : oldB x with
              | true =>
                rw [hq] at HAX hit
                have HTT := Aside0.mk (show (xs.take (k + 1)).filter (isTold true xs) = (xs.take k).filter (isTold true xs) ++ [x] by rw [HTS.out, hit, if_pos rfl])
                clear hq hit g1 g2
                go_wp2_with (first | (go_at_call 76; (with_reducible refine (HAX.out _ HB3.out).mono ?_); rintro e w' ⟨rfl, ⟨nd2, rfl⟩⟩) | ((with_reducible refine gate_builtin (b := .append) (xs := #[.tmp 66, .tmp 68]) rfl ?_); at_builtin; refine Kd.R_append (Kd.fixed (Kd.slice 3 (Kd.int .i64)) W) (w0 := W) W.heap.size rfl (.tmp 66) (.tmp 68) 26 31 (.slice none 0 0) 24 rfl Tryz.underlying26 (infoRowsF W) rfl Nat.zero_lt_one (by omega) (.slice Ao ((xs.take k).filter (isTold true xs)).length co) ((xs.take k).filter (isTold true xs)) x [.slice A1 x.length c1] (fun _ => True) (fun _ => False) rfl rfl ?aP (fun _ h => h.elim) (fun _ _ => trivial) ?aO ?aB ?aS ?aL ?_; (case aP => exact HK1.out); (case aO => exact Kd.R_drewN HR3.out nd2); (case aB => exact pw_below_drewN HB3.out nd2); (case aS => exact (pw_below_drewN HB3.out nd2).size); (case aL => have := HFL.out; omega); intro v1 w1 ho hb hg hat; have HO := Aside0.mk ho; have HB1 := Aside0.mk hb; clear ho hb hg hat))
                go_roundw
                case rel => exact ⟨k + 1, by omega, by go_num, ⟨by rw [HTT.out]; exact HO.out⟩, HB1⟩
                case measure => simp [intOf]; omega
              | false =>
                rw [hq] at HAX hit
                clear hq g1 g2
                have HS2 := Aside0.mk (HST.out hit)
                clear hit
                go_wp2_with (go_at_call 76; (with_reducible refine (HAX.out _ HB3.out).mono ?_); rintro e w' ⟨rfl, ⟨nd2, rfl⟩⟩)
                go_roundw
                case rel => exact ⟨k + 1, by omega, by go_num, ⟨by rw [HS2.out]; exact Kd.R_drewN HR3.out _⟩, ⟨pw_below_drewN HB3.out _⟩⟩
                case measure => simp [intOf]; omega
            · have d2 : ((m : Int) == 1) = false := by simp; omega
              have d2' : (m == 1) = false := by simp; omega
              rw [d1', decide_eq_false g2, Bool.true_and, Bool.false_and] at hit
              have HS2 := Aside0.mk (HST.out hit)
              clear hit g1 g2
              go_wp2
              go_roundw
              case rel => exact ⟨k + 1, by omega, by go_num, ⟨by rw [HS2.out]; exact HR3.out⟩, HB3⟩
              case measure => simp [intOf]; omega
          · have d1 : decide ((n : Int) > 1) = false := decide_eq_false (by omega)
            have d1' : decide (1 < n) = false := decide_eq_false g1
            rw [d1', Bool.false_and] at hit
            have HS2 := Aside0.mk (HST.out hit)
            clear hit g1
            go_wp2
            go_roundw
            case rel => exact ⟨k + 1, by omega, by go_num, ⟨by rw [HS2.out]; exact HR3.out⟩, HB3⟩
            case measure => simp [intOf]; omega
    · obtain rfl : k = xs.length := by omega
      rw [List.take_length] at HR
      obtain ⟨A', c', rfl, h1, h2⟩ := Kd.R_reads HR.out
      have H2 := Aside0.mk h2
      clear h2
      go_wp2
      go_ret
      exact ⟨A', c', rfl, h1, ReadsRow.imp_ H2.out (Below.refl _ _) (fun _ _ hp => (Kd.slice 3 (Kd.int .i64)).K_below HB.out hp), HB.out⟩
set_option maxHeartbeats 16000000 in
theorem siTold_false (A : Option Addr) (c : Nat) (xs : List (List Int)) (W : World) (hC : Kd.C (Kd.slice 3 (Kd.int .i64)) W A xs.length xs) (hc : xs.length ≤ c) (ha : ∀ x ∈ xs, Ages x ∧ x.length ≤ 4) (h1 : ∀ x ∈ xs, 1 ≤ x.length) (hn : xs.length ≤ 200000) :
    Calls Tryz.prog 46 #[.slice A xs.length c, .bool false] W fun e w' => ∃ A' c', e = .returned (.slice A' (toldS false xs).length c') ∧ (toldS false xs).length ≤ c' ∧ Kd.C (Kd.slice 3 (Kd.int .i64)) w' A' (toldS false xs).length (toldS false xs) ∧ Below W.heap.size W w' := by
  have HC := Aside0.mk hC
  have HA := Aside0.mk ha
  have H1 := Aside0.mk h1
  have HCC := Aside0.mk hc
  have HSM := Aside0.mk (fun (x : List Int) (hx : x ∈ xs) (A1 : Option Addr) (c1 : Nat) (w : World) (h : (Kd.int .i64).C w A1 x.length x) (h1 : x.length ≤ c1) => spec_agSum.calls _ A1 c1 x _ w h h1 (agSum_is x (ha x hx).2 (ha x hx).1))
  have HSB := Aside0.mk (fun (t : Int) (w : World) (h : Kd.C (Kd.slice 3 (Kd.int .i64)) w A xs.length xs) => siBoth_calls t A c xs w h hc ha hn)
  have HAG := Aside0.mk (fun (x : List Int) (hx : x ∈ xs) (A1 : Option Addr) (c1 : Nat) (w : World) (h : (Kd.int .i64).C w A1 x.length x) (hcc : x.length ≤ c1) => spec_siYoungest.calls A1 c1 x _ w h hcc (siYoungest_val x (h1 x hx) (ha x hx).2))
  clear hC ha h1
  go_enter Tryz.func46, Tryz.ntmps46
  go_wp2
  go_loopw [5, 14] (fun v5 v14 wr => ∃ k : Nat, k ≤ xs.length ∧ v14 = .int .i64 (k : Int) ∧ Aside0 ((Kd.fixed (Kd.slice 3 (Kd.int .i64)) W).R 31 wr W.heap.size (fun _ => True) v5 ((xs.take k).filter (isTold false xs))) ∧ Aside0 (Below W.heap.size W wr)) (fun _ v14 _ => xs.length - (intOf v14).toNat)
  case atStart => exact ⟨0, Nat.zero_le _, rfl, ⟨Kd.R_nil _ _ _ _ _⟩, ⟨Below.refl _ _⟩⟩
  case round =>
    obtain ⟨k, hk, rfl, HR, HB⟩ := hrel
    by_cases hlt : k < xs.length
    · have hlt1 : decide ((k : Int) < (xs.length : Int)) = true := decide_eq_true (by omega)
      obtain ⟨Ao, co, rfl⟩ := Kd.R_slice HR.out
      obtain ⟨ad, rfl, cs, hcs, ⟨A1, c1, rfl, h1, hC1⟩, hcell⟩ : ∃ ad, A = some ad ∧ ∃ cs, cs.length = 1 ∧ (Kd.slice 3 (Kd.int .i64)).K W xs[k] cs ∧ ∀ i u, cs[i]? = some u → W.cell? (ad.add (k * 1 + i)) = some u := by
        obtain ⟨ad, e, hh⟩ := HC.out.2.2 (by omega)
        obtain ⟨cs, q1, q2, q3⟩ := hh k xs[k] (List.getElem?_eq_getElem hlt)
        exact ⟨ad, e, cs, q1, q2, q3⟩
      have hx0 : wr.cell? (ad.add k) = some (.slice A1 xs[k].length c1) := by
        have := hcell 0 _ rfl
        rw [Nat.mul_one, Nat.add_zero] at this
        exact pw_cell_below HB.out this
      have HCa := Aside0.mk (HSM.out xs[k] (List.getElem_mem hlt) A1 c1 wr (Kd.C_below hC1 HB.out) h1)
      have HAK := Aside0.mk (fun (w : World) (hb : Below W.heap.size W w) => HAG.out xs[k] (List.getElem_mem hlt) A1 c1 w (Kd.C_below hC1 hb) h1)
      have HK1 := Aside0.mk (show (Kd.slice 3 (Kd.int .i64)).K W xs[k] [.slice A1 xs[k].length c1] from ⟨A1, c1, rfl, h1, hC1⟩)
      have HTS := Aside0.mk (take_succ_filter (isTold false xs) xs k hlt)
      have hfl := Nat.le_trans (List.length_filter_le (isTold false xs) (xs.take k)) (by rw [List.length_take]; exact Nat.min_le_right _ _)
      have HFL := Aside0.mk hfl
      obtain ⟨x, hx⟩ : ∃ x, x = xs[k] := ⟨_, rfl⟩
      obtain ⟨both, hboth⟩ : ∃ both, both = xs.filter (hasSum (sumL x)) := ⟨_, rfl⟩
      have HBO := Aside0.mk hboth
      have hIT : isTold false xs x = (decide (1 < both.length) && (decide ((both.filter youngB).length = 1) && youngB x)) := by rw [hboth]; rfl
      have HIT := Aside0.mk hIT
      have hbl : both.length ≤ 200000 := by rw [hboth]; exact Nat.le_trans (List.length_filter_le _ _) hn
      have HBM := Aside0.mk (show ∀ y ∈ both, y ∈ xs from fun y hy => by rw [hboth] at hy; exact (List.mem_filter.1 hy).1)
      have HSK := Aside0.mk (fun w h => by have q := HSB.out (sumL x) w h; rw [← hboth] at q; exact q)
      rw [← hx] at hx0 HCa HAK HK1 HTS
      clear hcell hC1 hcs hfl hIT hboth hx
      go_wp2_with (first | (go_at_call 66; (with_reducible refine HCa.out.mono ?_); rintro e w' ⟨rfl, ⟨nd, rfl⟩⟩) | (go_at_call 70; (with_reducible refine (HSK.out _ (Kd.C_below HC.out (pw_below_drewN HB.out nd))).mono ?_); rintro e w2 ⟨A2, c2, rfl, q2, hC2, hb2⟩; have HC2 := Aside0.mk hC2; have HB2 := Aside0.mk (show Below W.heap.size W w2 from below_step (pw_below_drewN HB.out nd) hb2); have HR2 := Aside0.mk (Kd.R_below (Kd.R_drewN HR.out nd) hb2); clear hC2 hb2))
      go_loopw [8, 24] (fun v8 v24 wr => ∃ i : Nat, i ≤ both.length ∧ v24 = .int .i64 (i : Int) ∧ v8 = .int .i64 ((((both.take i).filter youngB).length : Nat) : Int) ∧ Aside0 (Kd.C (Kd.slice 3 (Kd.int .i64)) wr A2 both.length both) ∧ Aside0 ((Kd.fixed (Kd.slice 3 (Kd.int .i64)) W).R 31 wr W.heap.size (fun _ => True) (.slice Ao ((xs.take k).filter (isTold false xs)).length co) ((xs.take k).filter (isTold false xs))) ∧ Aside0 (Below W.heap.size W wr)) (fun _ v24 _ => both.length - (intOf v24).toNat)
      case atStart => exact ⟨0, Nat.zero_le _, rfl, rfl, HC2, HR2, HB2⟩
      case round =>
        clear HR HB hx0 HCa
        obtain ⟨i, hi, rfl, rfl, HC3, HR3, HB3⟩ := hrel
        by_cases hil : i < both.length
        · have hil1 : decide ((i : Int) < (both.length : Int)) = true := decide_eq_true (by omega)
          obtain ⟨ad2, rfl, A3, c3, hy0, h3, hC4⟩ : ∃ ad2, A2 = some ad2 ∧ ∃ A3 c3, wr.cell? (ad2.add i) = some (.slice A3 both[i].length c3) ∧ both[i].length ≤ c3 ∧ (Kd.int .i64).C wr A3 both[i].length both[i] := by
            obtain ⟨ad2, e, hh⟩ := HC3.out.2.2 (by omega)
            obtain ⟨cs, q1, ⟨A3, c3, rfl, q4, q5⟩, q3⟩ := hh i both[i] (List.getElem?_eq_getElem hil)
            have this : wr.cell? (ad2.add (i * 1 + 0)) = some (.slice A3 both[i].length c3) := q3 0 _ rfl
            rw [Nat.mul_one, Nat.add_zero] at this
            exact ⟨ad2, e, A3, c3, this, q4, q5⟩
          have HAI := Aside0.mk (HAG.out both[i] (HBM.out _ (List.getElem_mem hil)) A3 c3 wr hC4 h3)
          have HT2 := Aside0.mk (take_succ_filter youngB both i hil)
          obtain ⟨m, hm⟩ : ∃ m, m = ((both.take i).filter youngB).length := ⟨_, rfl⟩
          have hm2 : m ≤ 200000 := by rw [hm]; exact Nat.le_trans (List.length_filter_le _ _) (by rw [List.length_take]; omega)
          have HMM := Aside0.mk hm
          obtain ⟨y, hy⟩ : ∃ y, y = both[i] := ⟨_, rfl⟩
          rw [← hy] at hy0 HAI HT2
          rw [← hm]
          clear hC4 hm hy
          cases hq : youngB y with
          | true =>
            rw [hq] at HAI HT2
            rw [if_pos rfl] at HT2
            clear hq
            go_wp2_with (go_at_call 77; (with_reducible refine HAI.out.mono ?_); rintro e w' ⟨rfl, ⟨nd2, rfl⟩⟩)
            go_roundw
            case rel => exact ⟨i + 1, by omega, by go_num, by rw [HT2.out, List.length_append, ← HMM.out]; rfl, ⟨Kd.C_drewN HC3.out _⟩, ⟨Kd.R_drewN HR3.out _⟩, ⟨pw_below_drewN HB3.out _⟩⟩
            case measure => simp [intOf]; omega
          | false =>
            rw [hq] at HAI HT2
            rw [if_neg (by simp), List.append_nil] at HT2
            clear hq
            go_wp2_with (go_at_call 77; (with_reducible refine HAI.out.mono ?_); rintro e w' ⟨rfl, ⟨nd2, rfl⟩⟩)
            go_roundw
            case rel => exact ⟨i + 1, by omega, by go_num, by rw [HT2.out, ← HMM.out], ⟨Kd.C_drewN HC3.out _⟩, ⟨Kd.R_drewN HR3.out _⟩, ⟨pw_below_drewN HB3.out _⟩⟩
            case measure => simp [intOf]; omega
        · obtain rfl : i = both.length := by omega
          have hil1 : decide ((both.length : Int) < (both.length : Int)) = false := decide_eq_false (by omega)
          rw [List.take_length]
          obtain ⟨m, hm⟩ : ∃ m, m = (both.filter youngB).length := ⟨_, rfl⟩
          have hit := HIT.out
          rw [← hm] at hit ⊢
          obtain ⟨n, hnn⟩ : ∃ n, n = both.length := ⟨_, rfl⟩
          rw [← hnn] at hit hil1 hbl ⊢
          have HN2 := Aside0.mk hnn
          have HAX := Aside0.mk (fun w hb => HAK.out w hb)
          clear hm hnn hi hil
          have stay : isTold false xs x = false → (xs.take (k + 1)).filter (isTold false xs) = (xs.take k).filter (isTold false xs) := fun h => by rw [HTS.out, h, if_neg (by simp), List.append_nil]
          have HST := Aside0.mk stay
          clear stay
          by_cases g1 : 1 < n
          · have d1 : decide ((n : Int) > 1) = true := decide_eq_true (by omega)
            have d1' : decide (1 < n) = true := decide_eq_true g1
            by_cases g2 : m = 1
            · have d2 : ((m : Int) == 1) = true := by simp; omega
              have d2' : (m == 1) = true := by simp; omega
              rw [d1', decide_eq_true g2, Bool.true_and, Bool.true_and] at hit
              cases hq : youngB x with
              | true =>
                rw [hq] at HAX hit
                have HTT := Aside0.mk (show (xs.take (k + 1)).filter (isTold false xs) = (xs.take k).filter (isTold false xs) ++ [x] by rw [HTS.out, hit, if_pos rfl])
                clear hq hit g1 g2
                go_wp2_with (first | (go_at_call 77; (with_reducible refine (HAX.out _ HB3.out).mono ?_); rintro e w' ⟨rfl, ⟨nd2, rfl⟩⟩) | ((with_reducible refine gate_builtin (b := .append) (xs := #[.tmp 66, .tmp 68]) rfl ?_); at_builtin; refine Kd.R_append (Kd.fixed (Kd.slice 3 (Kd.int .i64)) W) (w0 := W) W.heap.size rfl (.tmp 66) (.tmp 68) 26 31 (.slice none 0 0) 24 rfl Tryz.underlying26 (infoRowsF W) rfl Nat.zero_lt_one (by omega) (.slice Ao ((xs.take k).filter (isTold false xs)).length co) ((xs.take k).filter (isTold false xs)) x [.slice A1 x.length c1] (fun _ => True) (fun _ => False) rfl rfl ?aP (fun _ h => h.elim) (fun _ _ => trivial) ?aO ?aB ?aS ?aL ?_; (case aP => exact HK1.out); (case aO => exact Kd.R_drewN HR3.out nd2); (case aB => exact pw_below_drewN HB3.out nd2); (case aS => exact (pw_below_drewN HB3.out nd2).size); (case aL => have := HFL.out; omega); intro v1 w1 ho hb hg hat; have HO := Aside0.mk ho; have HB1 := Aside0.mk hb; clear ho hb hg hat))
                go_roundw
                case rel => exact ⟨k + 1, by omega, by go_num, ⟨by rw [HTT.out]; exact HO.out⟩, HB1⟩
                case measure => simp [intOf]; omega
              | false =>
                rw [hq] at HAX hit
                clear hq g1 g2
                have HS2 := Aside0.mk (HST.out hit)
                clear hit
                go_wp2_with (go_at_call 77; (with_reducible refine (HAX.out _ HB3.out).mono ?_); rintro e w' ⟨rfl, ⟨nd2, rfl⟩⟩)
                go_roundw
                case rel => exact ⟨k + 1, by omega, by go_num, ⟨by rw [HS2.out]; exact Kd.R_drewN HR3.out _⟩, ⟨pw_below_drewN HB3.out _⟩⟩
                case measure => simp [intOf]; omega
            · have d2 : ((m : Int) == 1) = false := by simp; omega
              have d2' : (m == 1) = false := by simp; omega
              rw [d1', decide_eq_false g2, Bool.true_and, Bool.false_and] at hit
              have HS2 := Aside0.mk (HST.out hit)
              clear hit g1 g2
              go_wp2
              go_roundw
              case rel => exact ⟨k + 1, by omega, by go_num, ⟨by rw [HS2.out]; exact HR3.out⟩, HB3⟩
              case measure => simp [intOf]; omega
          · have d1 : decide ((n : Int) > 1) = false := decide_eq_false (by omega)
            have d1' : decide (1 < n) = false := decide_eq_false g1
            rw [d1', Bool.false_and] at hit
            have HS2 := Aside0.mk (HST.out hit)
            clear hit g1
            go_wp2
            go_roundw
            case rel => exact ⟨k + 1, by omega, by go_num, ⟨by rw [HS2.out]; exact HR3.out⟩, HB3⟩
            case measure => simp [intOf]; omega
    · obtain rfl : k = xs.length := by omega
      rw [List.take_length] at HR
      obtain ⟨A', c', rfl, h1, h2⟩ := Kd.R_reads HR.out
      have H2 := Aside0.mk h2
      clear h2
      go_wp2
      go_ret
      exact ⟨A', c', rfl, h1, ReadsRow.imp_ H2.out (Below.refl _ _) (fun _ _ hp => (Kd.slice 3 (Kd.int .i64)).K_below HB.out hp), HB.out⟩
def okTold (l : List (List Int)) : Bool := okSets l && l.all fun x => decide (1 ≤ x.length)

end Go.Proofs.YtlbnhjeblknepaaGreat.E
