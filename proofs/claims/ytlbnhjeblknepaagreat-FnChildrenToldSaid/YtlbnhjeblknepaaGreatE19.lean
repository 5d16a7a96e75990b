-- WRITTEN by xprint.py, a program of this session that drives the kit's printer: out of the translation. Lean checks it.
import Derived.Test.YtlbnhjeblknepaaGreatE0
import Derived.Test.YtlbnhjeblknepaaGreatEa
import Derived.Test.YtlbnhjeblknepaaGreatEb
import Derived.Test.YtlbnhjeblknepaaGreatE17
import Derived.Test.YtlbnhjeblknepaaGreatE18
import Derived.Test.YtlbnhjeblknepaaGreatWm
namespace Go.Proofs.YtlbnhjeblknepaaGreat.E
open Go.RowKit Go.Proofs.YtlbnhjeblknepaaGreatW.PrintWords Go.Proofs.YtlbnhjeblknepaaGreatW.PrintLast
set_option linter.unusedVariables false
set_option linter.unusedSimpArgs false

-- OURS, BY HAND
/-! ### impl_openSums: function 57 -/
-- func impl.openSums
-- ext rounds=1 making=1
-- needs impl.sumsOf
-- needs impl.distinct
-- needs impl.withSum
-- import Derived.Lib.SliceRun
-- import Derived.WalkSpells
/-- The headers of a list that is read. -/
theorem C_raw {W : World} {A : Option Addr} {xs : List (List Int)} (hC : Kd.C (Kd.slice 3 (Kd.int .i64)) W A xs.length xs) :
    ∃ us : List Value, us.length = xs.length ∧ Kd.C rawKd W A us.length us ∧ ∀ (j : Nat) (x : List Int), xs[j]? = some x → ∃ A1 c1, us[j]? = some (.slice A1 x.length c1) ∧ x.length ≤ c1 ∧ (Kd.int .i64).C W A1 x.length x := by
  classical
  by_cases h0 : 0 < xs.length
  · obtain ⟨ad, hA, hh⟩ := hC.2.2 h0
    have hex : ∀ j : Fin xs.length, ∃ u : Value, W.cell? (ad.add j.val) = some u ∧ ∃ A1 c1, u = .slice A1 xs[j.val].length c1 ∧ xs[j.val].length ≤ c1 ∧ (Kd.int .i64).C W A1 xs[j.val].length xs[j.val] := by
      intro j
      obtain ⟨cs, q1, ⟨A1, c1, rfl, h1, h2⟩, q3⟩ := hh j.val xs[j.val] (List.getElem?_eq_getElem j.isLt)
      have := q3 0 _ rfl
      rw [show (Kd.slice 3 (Kd.int .i64)).sz = 1 from rfl, Nat.mul_one, Nat.add_zero] at this
      exact ⟨_, this, A1, c1, rfl, h1, h2⟩
    refine ⟨List.ofFn (fun j => (hex j).choose), List.length_ofFn, ⟨rfl, ?_, fun _ => ⟨ad, hA, fun j p hp => ?_⟩⟩, fun j x hx => ?_⟩
    · rw [List.length_ofFn]; exact hC.2.1
    · have hj : j < xs.length := by have := (List.getElem?_eq_some_iff.1 hp).1; rwa [List.length_ofFn] at this
      obtain ⟨hc, A1, c1, e, _⟩ := (hex ⟨j, hj⟩).choose_spec
      have hpe : p = (hex ⟨j, hj⟩).choose := by
        rw [List.getElem?_ofFn, dif_pos hj] at hp
        exact (Option.some.inj hp).symm
      refine ⟨[p], rfl, ⟨rfl, by rw [hpe, e]; rfl⟩, fun i u hu => ?_⟩
      cases i with
      | zero =>
        obtain rfl : p = u := by simpa using hu
        rw [show rawKd.sz = 1 from rfl, Nat.mul_one, Nat.add_zero, hpe]
        exact hc
      | succ i => simp at hu
    · obtain ⟨hj, rfl⟩ := List.getElem?_eq_some_iff.1 hx
      obtain ⟨_, A1, c1, e, h1, h2⟩ := (hex ⟨j, hj⟩).choose_spec
      exact ⟨A1, c1, by rw [List.getElem?_ofFn, dif_pos hj, e], h1, h2⟩
  · have hx : xs = [] := List.eq_nil_of_length_eq_zero (by omega)
    subst hx
    exact ⟨[], rfl, ⟨rfl, by decide, fun h => absurd h (by decide)⟩, fun j x hx => by simp at hx⟩
theorem deleteFunc_L (D : Int → List Int → Bool) (t : Int) (hD : DelAsks t D) (r base : Nat) (xs : List (List Int)) (us : List Value) (v : Value) (W : World) (hr : W.heap[r]? = some (.cells #[.int .i64 t] 3 (0, 0)))
    (hR : Kd.R rawKd 31 W base (fun _ => True) v us) (hl : us.length = xs.length) (hrows : ∀ (j : Nat) (x : List Int), xs[j]? = some x → ∃ A1 c1, us[j]? = some (.slice A1 x.length c1) ∧ x.length ≤ c1 ∧ ∀ w1, W.grownBy w1 v.ownBlock → (Kd.int .i64).C w1 A1 x.length x)
    (ha : ∀ x ∈ xs, Ages x ∧ x.length ≤ 4) (hn : xs.length ≤ 200000) :
    Calls Tryz.prog 78 #[v, .func (.func 98) #[] #[.pointer (some ⟨r, 0, none⟩)]] W fun e w' => ∃ A' c', e = .returned (.slice A' (xs.filter fun x => !D t x).length c') ∧ W.grownBy w' v.ownBlock := by
  obtain ⟨h0, inner, ho, hreps⟩ := hR
  obtain rfl := reps_raw hreps
  rcases ho.2 with ⟨rfl, e⟩ | ⟨g, cap, cur, rfl, hb, hg, hnc, hcm, hsz, htk⟩
  · have hx : xs = [] := List.eq_nil_of_length_eq_zero (by rw [← hl]; exact e)
    subst hx
    refine (deleteFunc_nil r W).mono ?_
    rintro e w' ⟨rfl, rfl⟩
    exact ⟨none, 0, rfl, ⟨rfl, rfl, rfl, Nat.le_refl _, fun _ _ _ => rfl⟩⟩
  · rw [show rawKd.sz = 1 from rfl, Nat.mul_one] at hsz htk
    have hrg : r ≠ g := blk_ne hr hg (by decide)
    have hcu : ∀ j, j < inner.length → cur[j]? = inner[j]? := by
      intro j hj
      have := congrArg (fun l => l[j]?) htk
      simp only [List.getElem?_take, if_pos hj, Array.getElem?_toList] at this
      exact this
    have hh : ∀ w1, W.grownBy w1 (some g) → Heads w1 cur xs := by
      intro w1 h1 j x hx
      obtain ⟨A1, c1, q1, q2, q3⟩ := hrows j x hx
      have hm := ha x (List.mem_of_getElem? hx)
      exact ⟨hm.1, hm.2, A1, c1, by rw [hcu j (by rw [hl]; exact (List.getElem?_eq_some_iff.1 hx).1), q1], q2, q3 w1 h1⟩
    have key := deleteFunc_calls D t hD r g cap xs cur W hr hrg hg hh hn (by omega) hsz hcm
    rw [hl]
    refine key.mono ?_
    rintro e w' ⟨rfl, hk, _⟩
    have hlen : (xs.filter fun x => !D t x).length = (stayAt (D t) xs xs.length).length := by rw [← stay_filter]; simp
    exact ⟨_, _, by rw [hlen], hk⟩
set_option maxHeartbeats 8000000 in
set_option maxRecDepth 100000 in
/-- How many sets of a list that is read have a sum. -/
theorem withSum_len (t : Int) (A : Option Addr) (c : Nat) (xs : List (List Int)) (W : World) (hC : Kd.C (Kd.slice 3 (Kd.int .i64)) W A xs.length xs) (hc : xs.length ≤ c) (ha : ∀ x ∈ xs, Ages x ∧ x.length ≤ 4) (hn : xs.length ≤ 200000) :
    Calls Tryz.prog 61 #[.slice A xs.length c, .int .i64 t] W fun e w' => ∃ A' c', e = .returned (.slice A' (xs.filter (hasSum t)).length c') ∧ Below W.heap.size W w' := by
  obtain ⟨us, hlu, hCr, hrows⟩ := C_raw hC
  rw [← hlu] at hc ⊢
  have HL := Aside0.mk (fun W1 (h : Kd.C rawKd W1 A us.length us) => cloneRows.calls A c us us W1 h hc (by omega) rfl)
  have HC := Aside0.mk hCr
  have HR := Aside0.mk hrows
  have HD := Aside0.mk (fun (r : Nat) (v2 : Value) (W2 : World) hr hR2 hrw => deleteFunc_L (fun t x => !hasSum t x) t (fun s A c r W ha h4 hcc hC hr => asks_other t s A c r W ha h4 hcc hC hr) r W.heap.size xs us v2 W2 hr hR2 hlu hrw ha hn)
  clear hC hCr ha hn hlu hc hrows
  go_enter Tryz.func61, Tryz.ntmps61
  go_wp2_with (first | (go_at_call 97; (with_reducible refine (HL.out _ ?hC).mono ?_); (case hC => exact Kd.C_below HC.out (below_alloc (Below.refl _ _) _)); rintro e w1 ⟨v1, rfl, hR, hb⟩; have HB1 := Aside0.mk (show Below W.heap.size W w1 from below_then (below_alloc (Below.refl _ _) _) (by simp) hb); have GR := Aside0.mk (blk_below (blk_new W _) hb); have HBS := Aside0.mk (Kd.R_base hR); have HRR := Aside0.mk (Kd.R_lower hR (show W.heap.size ≤ _ by simp)); clear hR hb) | (go_at_call 78; (with_reducible refine (HD.out _ _ _ GR.out HRR.out ?hrw).mono ?_); (case hrw => (intro j x hx; obtain ⟨A1, c1, q1, q2, q3⟩ := HR.out j x hx; exact ⟨A1, c1, q1, q2, fun w2 h2 => Kd.C_below q3 (HB1.out.grown h2 HB1.out.size (fun k hk => Nat.le_trans (by simp) (HBS.out k hk)))⟩)); rintro e w3 ⟨A3, c3, rfl, hB3⟩; have HB3 := Aside0.mk hB3; clear hB3))
  go_ret
  refine ⟨_, _, rfl, ?_⟩
  exact HB1.out.grown HB3.out HB1.out.size (fun k hk => Nat.le_trans (by simp) (HBS.out k hk))
/-- What is asked of the function that tells which numbers go: it may lay blocks. -/
structure AsksI (P : World → Prop) (g : Nat) (p : Value) (D : Int → Bool) : Prop where
  run : ∀ (t : Int) (W : World), P W → Calls Tryz.prog 94 #[.int .i64 t, p] W fun e w' => e = .returned (.bool (D t)) ∧ Below W.heap.size W w'
  grow : ∀ W w', P W → Below W.heap.size W w' → P w'
  put : ∀ W i u, P W → P (W.setCell ⟨g, i, none⟩ u)
def firstI (D : Int → Bool) : List Int → Nat → Int
  | [], _ => -1
  | x :: xs, i => if D x = true then (i : Int) else firstI D xs (i + 1)
theorem firstI_spec (D : Int → Bool) : ∀ (xs : List Int) (i : Nat), (firstI D xs i = -1 ∧ ∀ x ∈ xs, D x = false) ∨ ∃ k, k < xs.length ∧ firstI D xs i = ((i + k : Nat) : Int) ∧ D (xs.getD k 0) = true ∧ ∀ x ∈ xs.take k, D x = false
  | [], _ => .inl ⟨rfl, fun x hx => by simp at hx⟩
  | x :: xs, i => by
    cases h : D x with
    | true => exact .inr ⟨0, by simp, by simp [firstI, h], by simpa using h, fun j hj => by simp at hj⟩
    | false =>
      rcases firstI_spec D xs (i + 1) with ⟨e, ha⟩ | ⟨k, hk, e, ht, ha⟩
      · refine .inl ⟨by simp [firstI, h, e], fun y hy => ?_⟩
        rcases List.mem_cons.1 hy with rfl | hy
        · exact h
        · exact ha y hy
      · refine .inr ⟨k + 1, by simpa using hk, ?_, by simpa using ht, fun y hy => ?_⟩
        · simp only [firstI, h]
          rw [if_neg (by simp), e]
          congr 1
          omega
        · rw [List.take_succ_cons] at hy
          rcases List.mem_cons.1 hy with rfl | hy
          · exact h
          · exact ha y hy
/-- Of the first j numbers those that stay lie at the first i places; from j on nothing has moved. -/
structure MovedI (D : Int → Bool) (xs : List Int) (cap : Nat) (c1 : Array Value) (i j : Nat) : Prop where
  size : c1.size = cap
  len : i = ((xs.take j).filter fun x => !D x).length
  head : ∀ (m : Nat) (x : Int), ((xs.take j).filter fun x => !D x)[m]? = some x → c1[m]? = some (.int .i64 x)
  rest : ∀ (m : Nat) (x : Int), j ≤ m → xs[m]? = some x → c1[m]? = some (.int .i64 x)
theorem take_snoc (xs : List Int) (j : Nat) (h : j < xs.length) : xs.take (j + 1) = xs.take j ++ [xs[j]] := List.take_succ_eq_append_getElem h
theorem MovedI.skip {D : Int → Bool} {xs : List Int} {cap : Nat} {c1 : Array Value} {i j : Nat} (h : MovedI D xs cap c1 i j) (hj : j < xs.length) (hd : D xs[j] = true) : MovedI D xs cap c1 i (j + 1) := by
  have e : ((xs.take (j + 1)).filter fun x => !D x) = (xs.take j).filter fun x => !D x := by rw [take_snoc xs j hj, List.filter_append]; simp [hd]
  exact ⟨h.size, by rw [e]; exact h.len, by rw [e]; exact h.head, fun m x hm hx => h.rest m x (by omega) hx⟩
theorem MovedI.le {D : Int → Bool} {xs : List Int} {cap : Nat} {c1 : Array Value} {i j : Nat} (h : MovedI D xs cap c1 i j) : i ≤ j := by
  have h1 := List.length_filter_le (fun x => !D x) (xs.take j)
  rw [List.length_take] at h1
  have := h.len
  omega
theorem MovedI.keep {D : Int → Bool} {xs : List Int} {cap : Nat} {c1 : Array Value} {i j : Nat} (h : MovedI D xs cap c1 i j) (hj : j < xs.length) (hd : D xs[j] = false) : MovedI D xs cap (c1.setIfInBounds i (.int .i64 xs[j])) (i + 1) (j + 1) := by
  have e : ((xs.take (j + 1)).filter fun x => !D x) = ((xs.take j).filter fun x => !D x) ++ [xs[j]] := by rw [take_snoc xs j hj, List.filter_append]; simp [hd]
  have hi := h.le
  have hjc := (Array.getElem?_eq_some_iff.1 (h.rest j xs[j] (Nat.le_refl _) (List.getElem?_eq_getElem hj))).1
  refine ⟨by rw [Array.size_setIfInBounds]; exact h.size, by rw [e, List.length_append, ← h.len]; rfl, fun m x hx => ?_, fun m x hm hx => ?_⟩
  · rw [e] at hx
    by_cases hmi : m < i
    · rw [List.getElem?_append_left (by rw [← h.len]; exact hmi)] at hx
      rw [Array.getElem?_setIfInBounds, if_neg (by omega)]
      exact h.head m x hx
    · rw [List.getElem?_append_right (by rw [← h.len]; omega), ← h.len] at hx
      have hm0 : m - i = 0 := by
        have := (List.getElem?_eq_some_iff.1 hx).1
        simp at this
        omega
      rw [hm0] at hx
      obtain rfl : xs[j] = x := by simpa using hx
      obtain rfl : m = i := by omega
      rw [Array.getElem?_setIfInBounds, if_pos rfl, if_pos (by omega)]
  · rw [Array.getElem?_setIfInBounds, if_neg (by omega)]
    exact h.rest m x (by omega) hx
theorem movedI_start (D : Int → Bool) (xs : List Int) (cap : Nat) (cur : Array Value) (k : Nat) (hs : cur.size = cap) (hc : ∀ (m : Nat) (x : Int), xs[m]? = some x → cur[m]? = some (.int .i64 x)) (h : ∀ x ∈ xs.take k, D x = false) (hk : k ≤ xs.length) : MovedI D xs cap cur k k := by
  have e : ((xs.take k).filter fun x => !D x) = xs.take k := List.filter_eq_self.2 (fun x hx => by rw [h x hx]; rfl)
  refine ⟨hs, by rw [e, List.length_take]; omega, fun m x hx => ?_, fun m x _ hx => hc m x hx⟩
  rw [e] at hx
  have hm : m < k := by have := (List.getElem?_eq_some_iff.1 hx).1; rw [List.length_take] at this; omega
  rw [List.getElem?_take, if_pos hm] at hx
  exact hc m x hx
theorem setCells_ints {B g : Nat} (hB : B ≤ g) : ∀ (vs : List Value) (o : Nat) (w w1 : World) (c1 : Array Value), Below B w w1 → w1.heap[g]? = some (.cells c1 3 (0, 0)) →
    Below B w (w1.setCells g o vs) ∧ ∃ c2 : Array Value, (w1.setCells g o vs).heap[g]? = some (.cells c2 3 (0, 0)) ∧ c2.size = c1.size ∧ ∀ m, m < o → c2[m]? = c1[m]?
  | [], o, w, w1, c1, h, hc => ⟨h, c1, hc, rfl, fun _ _ => rfl⟩
  | v :: vs, o, w, w1, c1, h, hc => by
    obtain ⟨h1, c2, h2, h3, h4⟩ := setCells_ints hB vs (o + 1) w (w1.setCell ⟨g, o, none⟩ v) (c1.setIfInBounds o v) (h.setCell hB v) (blk_set hc o v)
    refine ⟨h1, c2, h2, by rw [h3]; simp, fun m hm => ?_⟩
    rw [h4 m (by omega), Array.getElem?_setIfInBounds, if_neg (by omega)]
theorem zeroInt : ∀ w, (zeroValue 3).run Tryz.prog w = .ok (.int .i64 0) w := by
  intro w
  kernel_rfl
set_option maxHeartbeats 800000 in
set_option maxRecDepth 100000 in
theorem indexI_calls (P : World → Prop) (g : Nat) (p : Value) (D : Int → Bool) (hD : AsksI P g p D) (cap : Nat) (xs : List Int) (cur : Array Value) (W : World) (hP : P W)
    (hg : W.heap[g]? = some (.cells cur 3 (0, 0))) (hh : ∀ (m : Nat) (x : Int), xs[m]? = some x → cur[m]? = some (.int .i64 x)) (hn : xs.length ≤ 200000) (hc : xs.length ≤ cap) :
    Calls Tryz.prog 110 #[.slice (some ⟨g, 0, none⟩) xs.length cap, .func (.func 94) #[] #[p]] W fun e w' => e = .returned (.int .i64 (firstI D xs 0)) ∧ Below W.heap.size W w' ∧ P w' := by
  obtain ⟨ad, had⟩ : ∃ ad : Addr, ad = ⟨g, 0, none⟩ := ⟨_, rfl⟩
  rw [← had]
  have HAD := Aside0.mk had
  have HG := Aside0.mk hg
  have HH := Aside0.mk hh
  have HP := Aside0.mk hP
  have HD := Aside0.mk hD
  clear hg hh had hP hD
  go_enter Tryz.func110, Tryz.ntmps110
  go_wp2
  go_loopw [8] (fun v8 wr => ∃ i : Nat, i ≤ xs.length ∧ v8 = .int .i64 (i : Int) ∧ Aside0 (firstI D xs 0 = firstI D (xs.drop i) i) ∧ Aside0 (Below W.heap.size W wr) ∧ Aside0 (P wr)) (fun v8 _ => xs.length - (intOf v8).toNat)
  case atStart => exact ⟨0, Nat.zero_le _, rfl, ⟨rfl⟩, ⟨Below.refl _ _⟩, HP⟩
  case round =>
    obtain ⟨i, hi, rfl, HF, HB, HPW⟩ := hrel
    by_cases hlt : i < xs.length
    · have hlt1 : decide ((i : Int) < (xs.length : Int)) = true := decide_eq_true (by omega)
      have hx0 : wr.cell? (ad.add i) = some (.int .i64 xs[i]) := by
        rw [HAD.out, add_at]
        exact (blk_cell (blk_below HG.out HB.out) i).trans (HH.out i xs[i] (List.getElem?_eq_getElem hlt))
      have HC := Aside0.mk (fun W1 (hw : Below wr.heap.size wr W1) => HD.out.run xs[i] W1 (HD.out.grow wr W1 HPW.out hw))
      have hdr : firstI D (xs.drop i) i = if D xs[i] = true then (i : Int) else firstI D (xs.drop (i + 1)) (i + 1) := by rw [List.drop_eq_getElem_cons hlt]; rfl
      have HDR := Aside0.mk hdr
      clear hdr
      cases hd : D xs[i] with
      | true =>
        rw [hd] at HC HDR
        clear hd
        go_wp2_with (go_at_call 94; (with_reducible refine (HC.out _ ?hw).mono ?_); (case hw => first | exact Below.refl _ _ | exact pw_below_drewN (Below.refl _ _) _); rintro e w' ⟨rfl, hb⟩; have HB2 := Aside0.mk hb; clear hb)
        go_ret
        refine ⟨?_, below_step HB.out (by first | exact HB2.out | exact below_then (pw_below_drewN (Below.refl _ _) _) (Nat.le_refl _) HB2.out), HD.out.grow wr _ HPW.out (by first | exact HB2.out | exact below_then (pw_below_drewN (Below.refl _ _) _) (Nat.le_refl _) HB2.out)⟩
        rw [HF.out, HDR.out]
        rfl
      | false =>
        rw [hd] at HC HDR
        clear hd
        go_wp2_with (go_at_call 94; (with_reducible refine (HC.out _ ?hw).mono ?_); (case hw => first | exact Below.refl _ _ | exact pw_below_drewN (Below.refl _ _) _); rintro e w' ⟨rfl, hb⟩; have HB2 := Aside0.mk hb; clear hb)
        go_roundw
        case rel => exact ⟨i + 1, by omega, by go_num, ⟨by rw [HF.out, HDR.out]; rfl⟩, ⟨below_step HB.out HB2.out⟩, ⟨HD.out.grow wr _ HPW.out HB2.out⟩⟩
        case measure => simp [intOf]; omega
    · obtain rfl : i = xs.length := by omega
      go_wp2
      go_ret
      refine ⟨?_, HB.out, HPW.out⟩
      rw [HF.out, List.drop_of_length_le (Nat.le_refl _)]
      rfl
set_option maxHeartbeats 1600000 in
set_option maxRecDepth 100000 in
theorem deleteI_calls (P : World → Prop) (g : Nat) (p : Value) (D : Int → Bool) (hD : AsksI P g p D) (cap : Nat) (xs : List Int) (cur : Array Value) (W : World) (hP : P W)
    (hg : W.heap[g]? = some (.cells cur 3 (0, 0))) (hh : ∀ (m : Nat) (x : Int), xs[m]? = some x → cur[m]? = some (.int .i64 x)) (hn : xs.length ≤ 200000) (hc : xs.length ≤ cap) (hcs : cur.size = cap) (hcm : cap ≤ maxLen) :
    Calls Tryz.prog 93 #[.slice (some ⟨g, 0, none⟩) xs.length cap, .func (.func 94) #[] #[p]] W fun e w' =>
      e = .returned (.slice (some ⟨g, 0, none⟩) (xs.filter fun x => !D x).length cap) ∧ Below g W w' ∧ ∃ c1, w'.heap[g]? = some (.cells c1 3 (0, 0)) ∧ c1.size = cap ∧ ∀ (m : Nat) (x : Int), (xs.filter fun x => !D x)[m]? = some x → c1[m]? = some (.int .i64 x) := by
  have HI := Aside0.mk (indexI_calls P g p D hD cap xs cur W hP hg hh hn hc)
  have hgl := blk_lt hg
  have HGL := Aside0.mk hgl
  have HG := Aside0.mk hg
  have HH := Aside0.mk hh
  have HCM := Aside0.mk hcm
  have HD := Aside0.mk hD
  clear hg hP hcm hD hgl
  obtain ⟨ad, had⟩ : ∃ ad : Addr, ad = ⟨g, 0, none⟩ := ⟨_, rfl⟩
  rw [← had] at HI ⊢
  have HAD := Aside0.mk had
  clear had
  rcases firstI_spec D xs 0 with ⟨e1, hall⟩ | ⟨k, hk, e1, hdk, hall⟩
  · rw [e1] at HI
    have HALL := Aside0.mk hall
    clear hall e1 hh
    go_enter Tryz.func93, Tryz.ntmps93
    go_wp2_with (go_at_call 110; (with_reducible refine HI.out.mono ?_); rintro e w' ⟨rfl, hb, hp⟩; have HB2 := Aside0.mk hb; clear hb hp)
    go_ret
    have ef : (xs.filter fun x => !D x) = xs := List.filter_eq_self.2 (fun x hx => by rw [HALL.out x hx]; rfl)
    rw [ef]
    exact ⟨rfl, HB2.out.mono (Nat.le_of_lt HGL.out), cur, blk_below HG.out HB2.out, hcs, HH.out⟩
  · rw [e1, Nat.zero_add] at HI
    have hgk : xs.getD k 0 = xs[k] := by simp [List.getD, List.getElem?_eq_getElem hk]
    rw [hgk] at hdk
    have HM0 := Aside0.mk ((movedI_start D xs cap cur k hcs hh hall (by omega)).skip hk hdk)
    have hk1 : ((k : Int) == -1) = false := by first | (simp; done) | (simp; omega)
    clear hall e1 hh hgk hdk
    go_enter Tryz.func93, Tryz.ntmps93
    go_wp2_with (go_at_call 110; (with_reducible refine HI.out.mono ?_); rintro e w' ⟨rfl, hb, hp⟩; have HB2 := Aside0.mk (hb.mono (Nat.le_of_lt HGL.out)); have HG2 := Aside0.mk (blk_below HG.out hb); have HP2 := Aside0.mk hp; clear hb hp)
    go_loopw [5, 6, 7] (fun v5 v6 v7 wr => ∃ (i j : Nat) (c1 : Array Value), i < j ∧ j ≤ xs.length ∧ v5 = .int .i64 (i : Int) ∧ v6 = .int .i64 (j : Int) ∧ Aside0 (MovedI D xs cap c1 i j) ∧ Aside0 (wr.heap[g]? = some (.cells c1 3 (0, 0))) ∧ Aside0 (Below g W wr) ∧ Aside0 (P wr)) (fun _ v6 _ _ => xs.length - (intOf v6).toNat)
    case atStart => exact ⟨k, k + 1, cur, by omega, by omega, rfl, by go_num, HM0, HG2, HB2, HP2⟩
    case round =>
      obtain ⟨i, j, c1, hij, hj, rfl, rfl, HMV, HGR, HK, HPW⟩ := hrel
      have HS := HMV.out.size
      by_cases hlt : j < xs.length
      · have hlt1 : decide ((j : Int) < (xs.length : Int)) = true := decide_eq_true (by omega)
        have hx0 : wr.cell? (ad.add j) = some (.int .i64 xs[j]) := by
          rw [HAD.out, add_at]
          exact (blk_cell HGR.out j).trans (HMV.out.rest j xs[j] (Nat.le_refl _) (List.getElem?_eq_getElem hlt))
        have HC := Aside0.mk (HD.out.run xs[j] wr HPW.out)
        obtain ⟨ci, hci⟩ : ∃ ci, c1[i]? = some ci := ⟨c1[i]'(by omega), Array.getElem?_eq_getElem _⟩
        have HCI := Aside0.mk hci
        have p1 : ((i : Int) < (xs.length : Int)) = True := eq_true (by omega)
        clear hci HS
        cases hd : D xs[j] with
        | true =>
          rw [hd] at HC
          have HDD := Aside0.mk hd
          clear hd
          go_wp2_with (go_at_call 94; (with_reducible refine HC.out.mono ?_); rintro e w2 ⟨rfl, hb⟩; have HB3 := Aside0.mk hb; have HG3 := Aside0.mk (blk_below HGR.out hb); clear hb)
          go_roundw
          case rel => exact ⟨i, j + 1, c1, by omega, by omega, rfl, by go_num, ⟨HMV.out.skip hlt HDD.out⟩, HG3, ⟨HK.out.trans (HB3.out.mono (Nat.le_of_lt (blk_lt HGR.out)))⟩, ⟨HD.out.grow wr _ HPW.out HB3.out⟩⟩
          case measure => simp [intOf]; omega
        | false =>
          rw [hd] at HC
          have HDD := Aside0.mk hd
          clear hd
          go_wp2_with (go_at_call 94; (with_reducible refine HC.out.mono ?_); rintro e w2 ⟨rfl, hb⟩; have HB3 := Aside0.mk hb; have HG3 := Aside0.mk (blk_below HGR.out hb); have hx1 : ∀ m, (w2.drewN m).cell? (ad.add i) = some ci := (fun m => by rw [HAD.out, add_at]; exact (blk_cell (blk_drewN HG3.out m) i).trans HCI.out); have hx2 : ∀ m, (w2.drewN m).frozen? (ad.add i) = false := (fun m => by rw [HAD.out, add_at]; exact blk_frozen (blk_drewN HG3.out m) i); have hx3 : w2.cell? (ad.add i) = some ci := hx1 0; have hx4 : w2.frozen? (ad.add i) = false := hx2 0; clear hb)
          go_roundw
          case rel => exact ⟨i + 1, j + 1, _, by omega, by omega, by go_num, by go_num, ⟨HMV.out.keep hlt HDD.out⟩, ⟨by rw [HAD.out, add_at]; exact blk_set HG3.out _ _⟩, ⟨by rw [HAD.out, add_at]; exact (HK.out.trans (HB3.out.mono (Nat.le_of_lt (blk_lt HGR.out)))).setCell (Nat.le_refl _) _⟩, ⟨by rw [HAD.out, add_at]; exact HD.out.put _ _ _ (HD.out.grow wr _ HPW.out HB3.out)⟩⟩
          case measure => simp [intOf]; omega
      · obtain rfl : j = xs.length := by omega
        have hlt1 : decide ((xs.length : Int) < (xs.length : Int)) = false := decide_eq_false (by omega)
        have hne : (cap = i) = False := eq_false (by omega)
        have hclr : ∀ ty, (Builtin.clear_ #[31] ty #[.slice (some (ad.add i)) (xs.length - i) (cap - i)]).run Tryz.prog wr = .ok (.tuple #[]) (wr.setCells g i (List.replicate (xs.length - i) (.int .i64 0))) := fun ty => by
          rw [HAD.out, add_at]
          exact Lib.run_clear_slice wr _ _ ty _ Tryz.underlying31 zeroInt rfl rfl g i _ _ (by omega) (fun m hm => by rw [blk_cell HGR.out, Array.getElem?_eq_getElem (by omega)]; rfl) (fun m hm => blk_frozen HGR.out _)
        have HX := Aside0.mk (setCells_ints (Nat.le_refl g) (List.replicate (xs.length - i) (.int .i64 0)) i W wr c1 HK.out HGR.out)
        have p1 : ((i : Int) ≤ (xs.length : Int)) = True := eq_true (by omega)
        clear HS
        go_wp2
        go_ret
        obtain ⟨h1, c2, h2, h3, h4⟩ := HX.out
        have hM := HMV.out
        have hl := hM.len
        have hd := hM.head
        rw [List.take_length] at hl hd
        refine ⟨by rw [← hl]; rfl, h1, c2, h2, by rw [h3, hM.size], fun m x hx => ?_⟩
        have hm := (List.getElem?_eq_some_iff.1 hx).1
        exact (h4 m (by omega)).trans (hd m x hx)
set_option maxHeartbeats 800000 in
set_option maxRecDepth 100000 in
theorem indexI_nil (p : Value) (W : World) : Calls Tryz.prog 110 #[.slice none 0 0, .func (.func 94) #[] #[p]] W fun e w' => e = .returned (.int .i64 (-1)) ∧ w' = W := by
  go_enter Tryz.func110, Tryz.ntmps110
  go_wp2
  go_loopw [8] (fun v8 wr => v8 = .int .i64 0 ∧ Aside0 (wr = W)) (fun _ _ => 0)
  case atStart => exact ⟨rfl, ⟨rfl⟩⟩
  case round =>
    obtain ⟨rfl, HW⟩ := hrel
    go_wp2
    go_ret
    exact ⟨rfl, HW.out⟩
set_option maxHeartbeats 800000 in
set_option maxRecDepth 100000 in
theorem deleteI_nil (p : Value) (W : World) : Calls Tryz.prog 93 #[.slice none 0 0, .func (.func 94) #[] #[p]] W fun e w' => e = .returned (.slice none 0 0) ∧ w' = W := by
  have HI := Aside0.mk (indexI_nil p W)
  go_enter Tryz.func93, Tryz.ntmps93
  go_wp2_with (go_at_call 110; (with_reducible refine HI.out.mono ?_); rintro e w' ⟨rfl, rfl⟩)
  go_ret
  exact ⟨rfl, rfl⟩
def okSetsO (l : List (List Int)) : Bool := decide (l.length ≤ 200000) && l.all fun x => decide (x.length ≤ 4) && x.all fun y => decide (1 ≤ y) && decide (y ≤ 20)
def impl_openSums.f (k : Nat) (l : List (List Int)) : Option (List Int) := if okSetsO l = true then (impl_sumsOf.f k l).bind fun s => (impl_distinct.f s).bind fun d => some (d.filter fun t => !decide (((l.filter (hasSum t)).length : Int) < 2)) else none
theorem impl_openSums.mono : ∀ a0 k, LeO (impl_openSums.f k a0) (impl_openSums.f (k + 1) a0) := by
  intro a0 k
  unfold impl_openSums.f
  by_cases h : okSetsO a0 = true
  · rw [if_pos h, if_pos h]
    exact LeO.bind (impl_sumsOf.mono _ _) (fun _ => LeO.refl _)
  · rw [if_neg h, if_neg h]
    exact LeO.refl _
set_option maxHeartbeats 800000 in
set_option maxRecDepth 100000 in
theorem few_calls (t : Int) (A : Option Addr) (c r : Nat) (xs : List (List Int)) (W : World) (hr : W.heap[r]? = some (.cells #[.slice A xs.length c] 26 (0, 0))) (hC : Kd.C (Kd.slice 3 (Kd.int .i64)) W A xs.length xs) (hc : xs.length ≤ c) (ha : ∀ x ∈ xs, Ages x ∧ x.length ≤ 4) (hn : xs.length ≤ 200000) :
    Calls Tryz.prog 94 #[.int .i64 t, .pointer (some ⟨r, 0, none⟩)] W fun e w' => e = .returned (.bool (decide (((xs.filter (hasSum t)).length : Int) < 2))) ∧ Below W.heap.size W w' := by
  have HL := Aside0.mk (withSum_len t A c xs W hC hc ha hn)
  have hc1 := fun m => blk_cell (blk_drewN hr m) 0
  simp only [List.getElem?_toArray, List.getElem?_cons_zero] at hc1
  have hc2 := hc1 0
  rw [show W.drewN 0 = W from rfl] at hc2
  clear hC hr hc ha hn
  go_enter Tryz.func94, Tryz.ntmps94
  go_wp2_with (go_at_call 61; (with_reducible refine HL.out.mono ?_); rintro e w1 ⟨A1, c1, rfl, hb⟩; have HB1 := Aside0.mk hb; clear hb)
  go_ret
  exact ⟨rfl, HB1.out⟩
theorem open_asks (g : Nat) (A : Option Addr) (c r : Nat) (xs : List (List Int)) (W0 : World) (hg : W0.heap.size ≤ g) (hr : W0.heap[r]? = some (.cells #[.slice A xs.length c] 26 (0, 0))) (hC : Kd.C (Kd.slice 3 (Kd.int .i64)) W0 A xs.length xs) (hc : xs.length ≤ c) (ha : ∀ x ∈ xs, Ages x ∧ x.length ≤ 4) (hn : xs.length ≤ 200000) :
    AsksI (fun W => Below W0.heap.size W0 W) g (.pointer (some ⟨r, 0, none⟩)) (fun t => decide (((xs.filter (hasSum t)).length : Int) < 2)) :=
  ⟨fun t W hW => few_calls t A c r xs W (blk_below hr hW) (Kd.C_below hC hW) hc ha hn, fun _ _ h k => below_step h k, fun _ i u h => h.setCell hg u⟩
theorem deleteI_R (g0 : Nat) (A : Option Addr) (c r : Nat) (xs : List (List Int)) (W0 W : World) (v : Value) (l : List Int) (hb : Below W0.heap.size W0 W) (hR : Kd.R (Kd.int .i64) 3 W W0.heap.size (fun _ => True) v l) (hr : W0.heap[r]? = some (.cells #[.slice A xs.length c] 26 (0, 0))) (hC : Kd.C (Kd.slice 3 (Kd.int .i64)) W0 A xs.length xs) (hc : xs.length ≤ c) (ha : ∀ x ∈ xs, Ages x ∧ x.length ≤ 4) (hn : xs.length ≤ 200000) (hl : l.length ≤ 200000) :
    Calls Tryz.prog 93 #[v, .func (.func 94) #[] #[.pointer (some ⟨r, 0, none⟩)]] W fun e w' => ∃ v', e = .returned v' ∧ Kd.R (Kd.int .i64) 3 w' W0.heap.size (fun _ => True) v' (l.filter fun t => !decide (((xs.filter (hasSum t)).length : Int) < 2)) ∧ Below W0.heap.size W0 w' := by
  have hown := own_ints hR
  rcases hown.2 with ⟨rfl, e⟩ | ⟨g, cap, cur, rfl, hbs, hg, hnc, hcm, hsz, htk⟩
  · have h0 : l = [] := List.eq_nil_of_length_eq_zero e
    subst h0
    refine (deleteI_nil _ W).mono ?_
    rintro e w' ⟨rfl, rfl⟩
    exact ⟨_, rfl, Kd.R_nil _ _ _ _ _, hb⟩
  · rw [Nat.mul_one] at hsz htk
    have hh : ∀ (m : Nat) (x : Int), l[m]? = some x → cur[m]? = some (.int .i64 x) := by
      intro m x hx
      have hm := (List.getElem?_eq_some_iff.1 hx).1
      have := congrArg (fun l => l[m]?) htk
      simp only [List.getElem?_take, if_pos hm, Array.getElem?_toList, List.getElem?_map, hx, Option.map_some] at this
      exact this
    refine (deleteI_calls _ g _ _ (open_asks g A c r xs W0 hbs hr hC hc ha hn) cap l cur W hb hg hh hl hnc hsz hcm).mono ?_
    rintro e w' ⟨rfl, hB, c1, h1, h2, h3⟩
    have hll : (l.filter fun t => !decide (((xs.filter (hasSum t)).length : Int) < 2)).length ≤ l.length := List.length_filter_le _ _
    refine ⟨_, rfl, ints_own ⟨by rw [List.length_map, Nat.mul_one], .inr ⟨g, cap, c1, rfl, hbs, h1, by omega, hcm, by rw [h2, Nat.mul_one], ?_⟩⟩, hb.trans (hB.mono hbs)⟩
    rw [Nat.mul_one]
    apply List.ext_getElem?
    intro m
    by_cases hm : m < (l.filter fun t => !decide (((xs.filter (hasSum t)).length : Int) < 2)).length
    · rw [List.getElem?_take, if_pos hm, Array.getElem?_toList, List.getElem?_map, List.getElem?_eq_getElem hm, h3 m _ (List.getElem?_eq_getElem hm)]
      rfl
    · rw [List.getElem?_eq_none (by rw [List.length_take]; omega), List.getElem?_eq_none (by rw [List.length_map]; omega)]
theorem okSetsO_len {l : List (List Int)} (h : okSetsO l = true) : l.length ≤ 200000 := of_decide_eq_true (Bool.and_eq_true_iff.1 h).1
theorem okSetsO_ages {l : List (List Int)} (h : okSetsO l = true) : ∀ x ∈ l, Ages x ∧ x.length ≤ 4 := by
  intro x hx
  have := List.all_eq_true.1 (Bool.and_eq_true_iff.1 h).2 x hx
  obtain ⟨h1, h2⟩ := Bool.and_eq_true_iff.1 this
  refine ⟨fun y hy => ?_, of_decide_eq_true h1⟩
  have := List.all_eq_true.1 h2 y hy
  obtain ⟨h3, h4⟩ := Bool.and_eq_true_iff.1 this
  exact ⟨of_decide_eq_true h3, of_decide_eq_true h4⟩
theorem distinct_len {s d : List Int} (h : impl_distinct.f s = some d) : d.length ≤ 200000 := by
  unfold impl_distinct.f at h
  by_cases hl : s.length ≤ 200000
  · rw [if_pos hl] at h
    obtain rfl := Option.some.inj h
    have := compact_le (s.mergeSort fun x y => decide (x ≤ y))
    rw [List.length_mergeSort] at this
    omega
  · rw [if_neg hl] at h; cases h
set_option maxHeartbeats 1600000 in
set_option maxRecDepth 100000 in
theorem impl_openSums.calls (k : Nat) (A0 : Option Addr) (c0 : Nat) (l0 : List (List Int)) (r : List Int) (w : World) (hr0 : Kd.C (Kd.slice 3 (Kd.int .i64)) w A0 l0.length l0) (hc0 : l0.length ≤ c0) (h : impl_openSums.f k l0 = some r) :
    Calls Tryz.prog 57 #[.slice A0 l0.length c0] w fun e w' => ∃ v0_ : Value, e = .returned v0_ ∧ Kd.R (Kd.int .i64) 3 w' w.heap.size (fun _ => True) v0_ r ∧ Below w.heap.size w w' := by
  unfold impl_openSums.f at h
  by_cases hok : okSetsO l0 = true
  · rw [if_pos hok] at h
    obtain ⟨s, hs, h⟩ := Option.bind_eq_some_iff.1 h
    obtain ⟨d, hd, h⟩ := Option.bind_eq_some_iff.1 h
    obtain rfl := Option.some.inj h
    have hdl := distinct_len hd
    have hsl : s.length ≤ 200000 := by
      unfold impl_distinct.f at hd
      by_cases hl : s.length ≤ 200000
      · exact hl
      · rw [if_neg hl] at hd; cases hd
    have W0B : Below w.heap.size w (w.alloc (.cells #[.slice A0 l0.length c0] 26 (0, 0))) := below_alloc (Below.refl _ _) _
    have HC := Aside0.mk (Kd.C_below hr0 W0B)
    have HS := Aside0.mk (fun W (h : Kd.C (Kd.slice 3 (Kd.int .i64)) W A0 l0.length l0) => impl_sumsOf.calls k A0 c0 l0 s W h hc0 hs)
    have HD := Aside0.mk (fun A c W (h : Kd.C (Kd.int .i64) W A s.length s) (hc : s.length ≤ c) => impl_distinct.calls A c s d W h hc hd)
    have HX := Aside0.mk (fun (W : World) (v : Value) hb hR => deleteI_R 0 A0 c0 w.heap.size l0 (w.alloc (.cells #[.slice A0 l0.length c0] 26 (0, 0))) W v d hb hR (blk_new _ _) HC.out hc0 (okSetsO_ages hok) (okSetsO_len hok) hdl)
    have HW := Aside0.mk W0B
    clear hr0 hc0 hs hd W0B
    go_enter Tryz.func57, Tryz.ntmps57
    go_wp2_with (first | (go_at_call 55; (with_reducible refine (HS.out _ HC.out).mono ?_); rintro e w1 ⟨v1, rfl, hR, hb⟩; have HB1 := Aside0.mk hb; have HR1 := Aside0.mk hR; obtain ⟨A1, c1, rfl, q1, q2⟩ := Kd.R_reads hR; have HQ := Aside0.mk q2; clear hR hb q2) | (go_at_call 54; (with_reducible refine (HD.out _ _ _ HQ.out q1).mono ?_); rintro e w2 ⟨v2, rfl, hR, hb⟩; have HB2 := Aside0.mk (below_step HB1.out hb); have HR2 := Aside0.mk (Kd.R_lower hR HB1.out.size); clear hR hb) | (go_at_call 93; (with_reducible refine (HX.out _ _ HB2.out HR2.out).mono ?_); rintro e w3 ⟨v3, rfl, hR, hb⟩; have HB3 := Aside0.mk hb; have HR3 := Aside0.mk (Kd.R_lower hR HW.out.size); clear hR hb))
    go_ret
    exact ⟨_, rfl, HR3.out, below_weaken HW.out HW.out.size HB3.out⟩
  · rw [if_neg hok] at h
    cases h

end Go.Proofs.YtlbnhjeblknepaaGreat.E
