-- WRITTEN by xprint.py, a program of this session that drives the kit's printer: out of the translation. Lean checks it.
import Derived.Test.YtjfdehjkdbcneaaGreatE0
import Derived.Test.YtjfdehjkdbcneaaGreatE4
import Derived.Test.YtjfdehjkdbcneaaGreatE7
import Derived.Test.YtjfdehjkdbcneaaGreatE8
import Derived.Test.YtjfdehjkdbcneaaGreatWm
namespace Go.Proofs.YtjfdehjkdbcneaaGreat.E
open Go.RowKit Go.Proofs.YtjfdehjkdbcneaaGreatW.PrintWords Go.Proofs.YtjfdehjkdbcneaaGreatW.PrintLast
set_option linter.unusedVariables false
set_option linter.unusedSimpArgs false

-- OURS, BY HAND
/-! ### impl_SetsApart: function 6 -/
-- func impl.SetsApart
-- ext rounds=0 making=1
-- needs impl.setsOfSum
-- needs impl.between
-- import Derived.Lib.SliceRun
/-- What is asked of the function that tells which sets go. -/
def DelAsks (t : Int) (D : Int → List Int → Bool) : Prop := ∀ (s : List Int) (A : Option Addr) (c r : Nat) (W : World), Ages s → s.length ≤ 4 → s.length ≤ c → (Kd.int .i64).C W A s.length s → W.heap[r]? = some (.cells #[.int .i64 t] 3 (0, 0)) →
  Calls Tryz.prog 38 #[.slice A s.length c, .pointer (some ⟨r, 0, none⟩)] W fun e w' => e = .returned (.bool (D t s)) ∧ Drawn0 W w'
/-- The headers of a list's rows lie in cells, the rows are read. -/
def Heads (W : World) (cur : Array Value) (xs : List (List Int)) : Prop :=
  ∀ (j : Nat) (x : List Int), xs[j]? = some x → Ages x ∧ x.length ≤ 4 ∧ ∃ A c, cur[j]? = some (.slice A x.length c) ∧ x.length ≤ c ∧ (Kd.int .i64).C W A x.length x
theorem add_at (g i : Nat) : (⟨g, 0, none⟩ : Addr).add i = ⟨g, i, none⟩ := by
  by_cases h : i = 0
  · subst h; rfl
  · simp [Addr.add, h]
def firstDel (D : List Int → Bool) : List (List Int) → Nat → Int
  | [], _ => -1
  | x :: xs, i => if D x = true then (i : Int) else firstDel D xs (i + 1)
set_option maxHeartbeats 800000 in
set_option maxRecDepth 100000 in
theorem indexFunc_calls (D : Int → List Int → Bool) (t : Int) (hD : DelAsks t D) (r g cap : Nat) (xs : List (List Int)) (cur : Array Value) (W : World) (hr : W.heap[r]? = some (.cells #[.int .i64 t] 3 (0, 0)))
    (hg : W.heap[g]? = some (.cells cur 29 (0, 0))) (hh : Heads W cur xs) (hn : xs.length ≤ 200000) (hc : xs.length ≤ cap) :
    Calls Tryz.prog 65 #[.slice (some ⟨g, 0, none⟩) xs.length cap, .func (.func 38) #[] #[.pointer (some ⟨r, 0, none⟩)]] W fun e w' => e = .returned (.int .i64 (firstDel (D t) xs 0)) ∧ Drawn0 W w' := by
  obtain ⟨ad, had⟩ : ∃ ad : Addr, ad = ⟨g, 0, none⟩ := ⟨_, rfl⟩
  rw [← had]
  have HAD := Aside0.mk had
  have HG := Aside0.mk hg
  have HH := Aside0.mk hh
  have HR := Aside0.mk hr
  clear hg hh had hr
  go_enter Tryz.func65, Tryz.ntmps65
  go_wp2
  go_loopw [8] (fun v8 wr => ∃ i : Nat, i ≤ xs.length ∧ v8 = .int .i64 (i : Int) ∧ Aside0 (firstDel (D t) xs 0 = firstDel (D t) (xs.drop i) i) ∧ Aside0 (∃ m, wr = W.drewN m)) (fun v8 _ => xs.length - (intOf v8).toNat)
  case atStart => exact ⟨0, Nat.zero_le _, rfl, ⟨rfl⟩, ⟨0, rfl⟩⟩
  case round =>
    obtain ⟨i, hi, rfl, HF, HM⟩ := hrel
    obtain ⟨m0, hm0⟩ := HM.out
    clear HM
    subst hm0
    by_cases hlt : i < xs.length
    · have hlt1 : decide ((i : Int) < (xs.length : Int)) = true := decide_eq_true (by omega)
      obtain ⟨ha, h4, A, c, hcur, hxc, hC⟩ := HH.out i xs[i] (List.getElem?_eq_getElem hlt)
      have hx0 : (W.drewN m0).cell? (ad.add i) = some (.slice A xs[i].length c) := by
        rw [HAD.out, add_at]
        exact (blk_cell (blk_drewN HG.out m0) i).trans hcur
      have HC := Aside0.mk (hD xs[i] A c r (W.drewN m0) ha h4 hxc (Kd.C_drewN hC m0) (blk_drewN HR.out m0))
      have hdr : firstDel (D t) (xs.drop i) i = if D t xs[i] = true then (i : Int) else firstDel (D t) (xs.drop (i + 1)) (i + 1) := by rw [List.drop_eq_getElem_cons hlt]; rfl
      have HDR := Aside0.mk hdr
      clear ha h4 hcur hC hdr
      cases hd : D t xs[i] with
      | true =>
        rw [hd] at HC HDR
        clear hd
        go_wp2_with (go_at_call 38; (with_reducible refine HC.out.mono ?_); rintro e w' ⟨rfl, ⟨nd, rfl⟩⟩)
        go_ret
        refine ⟨?_, ⟨_, rfl⟩⟩
        rw [HF.out, HDR.out]
        rfl
      | false =>
        rw [hd] at HC HDR
        clear hd
        go_wp2_with (go_at_call 38; (with_reducible refine HC.out.mono ?_); rintro e w' ⟨rfl, ⟨nd, rfl⟩⟩)
        go_roundw
        case rel => exact ⟨i + 1, by omega, by go_num, ⟨by rw [HF.out, HDR.out]; rfl⟩, ⟨_, rfl⟩⟩
        case measure => simp [intOf]; omega
    · obtain rfl : i = xs.length := by omega
      go_wp2
      go_ret
      refine ⟨?_, ⟨_, rfl⟩⟩
      rw [HF.out, List.drop_of_length_le (Nat.le_refl _)]
      rfl
theorem grown_refl (w : World) (g : Nat) : w.grownBy w (some g) := ⟨rfl, rfl, rfl, Nat.le_refl _, fun _ _ _ => rfl⟩
theorem grown_set {w w1 : World} {g : Nat} (h : w.grownBy w1 (some g)) (i : Nat) (u : Value) : w.grownBy (w1.setCell ⟨g, i, none⟩ u) (some g) := by
  have hb := Below.setCell (B := 0) (p := ⟨g, i, none⟩) (Below.refl 0 w1) (Nat.zero_le _) u
  exact ⟨hb.os.trans h.os, hb.tape.trans h.tape, hb.output.trans h.output, Nat.le_trans h.size hb.size, fun k hk hne => (Below.heap_setCell w1 ⟨g, i, none⟩ u k (fun e => hne (by rw [e]))).trans (h.block k hk hne)⟩
theorem grown_drewN {w w1 : World} {g : Nat} (h : w.grownBy w1 (some g)) (n : Nat) : w.grownBy (w1.drewN n) (some g) := by
  have hb := pw_below_drewN (Below.refl 0 w1) n
  exact ⟨hb.os.trans h.os, hb.tape.trans h.tape, hb.output.trans h.output, Nat.le_trans h.size hb.size, fun k hk hne => h.block k hk hne⟩
theorem setCells_keeps {w : World} {g : Nat} : ∀ (vs : List Value) (o : Nat) (w1 : World) (c1 : Array Value), w.grownBy w1 (some g) → w1.heap[g]? = some (.cells c1 29 (0, 0)) →
    w.grownBy (w1.setCells g o vs) (some g) ∧ ∃ c2 : Array Value, (w1.setCells g o vs).heap[g]? = some (.cells c2 29 (0, 0)) ∧ c2.size = c1.size ∧ ∀ m, m < o → c2[m]? = c1[m]?
  | [], o, w1, c1, h, hc => ⟨h, c1, hc, rfl, fun _ _ => rfl⟩
  | v :: vs, o, w1, c1, h, hc => by
    obtain ⟨h1, c2, h2, h3, h4⟩ := setCells_keeps vs (o + 1) (w1.setCell ⟨g, o, none⟩ v) (c1.setIfInBounds o v) (grown_set h o v) (blk_set hc o v)
    refine ⟨h1, c2, h2, by rw [h3]; simp, fun m hm => ?_⟩
    rw [h4 m (by omega), Array.getElem?_setIfInBounds, if_neg (by omega)]
/-- The places of the rows that stay, of the first j. -/
def stayAt (D : List Int → Bool) (xs : List (List Int)) (j : Nat) : List Nat := (List.range j).filter fun q => !D (xs.getD q [])
theorem stayAt_succ (D : List Int → Bool) (xs : List (List Int)) (j : Nat) : stayAt D xs (j + 1) = stayAt D xs j ++ if D (xs.getD j []) = true then [] else [j] := by
  unfold stayAt
  rw [List.range_succ, List.filter_append]
  congr 1
  rw [List.filter_cons, List.filter_nil]
  cases h : D (xs.getD j []) <;> rfl
theorem stayAt_len (D : List Int → Bool) (xs : List (List Int)) (j : Nat) : (stayAt D xs j).length ≤ j := by
  unfold stayAt
  have := List.length_filter_le (fun q => !D (xs.getD q [])) (List.range j)
  simpa using this
structure Moved (D : List Int → Bool) (xs : List (List Int)) (cur c1 : Array Value) (i j : Nat) : Prop where
  size : c1.size = cur.size
  len : i = (stayAt D xs j).length
  head : ∀ m, m < i → ∃ q, (stayAt D xs j)[m]? = some q ∧ c1[m]? = cur[q]?
  rest : ∀ m, j ≤ m → c1[m]? = cur[m]?
theorem Moved.skip {D : List Int → Bool} {xs : List (List Int)} {cur c1 : Array Value} {i j : Nat} (h : Moved D xs cur c1 i j) (hd : D (xs.getD j []) = true) : Moved D xs cur c1 i (j + 1) := by
  have e : stayAt D xs (j + 1) = stayAt D xs j := by rw [stayAt_succ, if_pos hd, List.append_nil]
  exact ⟨h.size, by rw [e]; exact h.len, by rw [e]; exact h.head, fun m hm => h.rest m (by omega)⟩
theorem Moved.keep {D : List Int → Bool} {xs : List (List Int)} {cur c1 : Array Value} {i j : Nat} (h : Moved D xs cur c1 i j) (hd : D (xs.getD j []) = false) {u : Value} (hu : cur[j]? = some u) : Moved D xs cur (c1.setIfInBounds i u) (i + 1) (j + 1) := by
  have e : stayAt D xs (j + 1) = stayAt D xs j ++ [j] := by rw [stayAt_succ, if_neg (by rw [hd]; simp)]
  have hij : i ≤ j := by rw [h.len]; exact stayAt_len D xs j
  have hjc : j < cur.size := (Array.getElem?_eq_some_iff.1 hu).1
  refine ⟨by simp [h.size], by rw [e, List.length_append, ← h.len]; rfl, fun m hm => ?_, fun m hm => ?_⟩
  · by_cases hmi : m = i
    · subst hmi
      refine ⟨j, ?_, ?_⟩
      · rw [e, List.getElem?_append_right (by rw [← h.len]; exact Nat.le_refl _), ← h.len]; simp
      · rw [Array.getElem?_setIfInBounds, if_pos rfl, if_pos (by rw [h.size]; omega), hu]
    · obtain ⟨q, h1, h2⟩ := h.head m (by omega)
      refine ⟨q, ?_, ?_⟩
      · rw [e, List.getElem?_append_left (by rw [← h.len]; omega)]; exact h1
      · rw [Array.getElem?_setIfInBounds, if_neg (by omega)]; exact h2
  · rw [Array.getElem?_setIfInBounds, if_neg (by omega)]
    exact h.rest m (by omega)
theorem firstDel_spec (D : List Int → Bool) : ∀ (xs : List (List Int)) (i : Nat), (firstDel D xs i = -1 ∧ ∀ j, j < xs.length → D (xs.getD j []) = false) ∨ ∃ k, k < xs.length ∧ firstDel D xs i = ((i + k : Nat) : Int) ∧ D (xs.getD k []) = true ∧ ∀ j, j < k → D (xs.getD j []) = false
  | [], _ => .inl ⟨rfl, fun j hj => absurd hj (Nat.not_lt_zero _)⟩
  | x :: xs, i => by
    cases h : D x with
    | true => exact .inr ⟨0, by simp, by simp [firstDel, h], by simpa using h, fun j hj => absurd hj (Nat.not_lt_zero _)⟩
    | false =>
      rcases firstDel_spec D xs (i + 1) with ⟨e, ha⟩ | ⟨k, hk, e, ht, ha⟩
      · refine .inl ⟨by simp [firstDel, h, e], fun j hj => ?_⟩
        cases j with
        | zero => simpa using h
        | succ j => simpa using ha j (by simpa using hj)
      · refine .inr ⟨k + 1, by simpa using hk, ?_, by simpa using ht, fun j hj => ?_⟩
        · simp only [firstDel, h]
          rw [if_neg (by simp), e]
          congr 1
          omega
        · cases j with
          | zero => simpa using h
          | succ j => simpa using ha j (by omega)
theorem stayAt_all (D : List Int → Bool) (xs : List (List Int)) (k : Nat) (h : ∀ j, j < k → D (xs.getD j []) = false) : stayAt D xs k = List.range k := by
  unfold stayAt
  exact List.filter_eq_self.2 (fun j hj => by rw [h j (List.mem_range.1 hj)]; rfl)
theorem moved_start (D : List Int → Bool) (xs : List (List Int)) (cur : Array Value) (k : Nat) (h : ∀ j, j < k → D (xs.getD j []) = false) : Moved D xs cur cur k k := by
  have e := stayAt_all D xs k h
  refine ⟨rfl, by rw [e]; simp, fun m hm => ⟨m, by rw [e]; simp [hm], rfl⟩, fun _ _ => rfl⟩
theorem zero43 : ∀ w, (zeroValue 29).run Tryz.prog w = .ok (.slice none 0 0) w := by
  intro w
  kernel_rfl
set_option maxHeartbeats 1600000 in
set_option maxRecDepth 100000 in
theorem deleteFunc_calls (D : Int → List Int → Bool) (t : Int) (hD : DelAsks t D) (r g cap : Nat) (xs : List (List Int)) (cur : Array Value) (W : World) (hr : W.heap[r]? = some (.cells #[.int .i64 t] 3 (0, 0))) (hrg : r ≠ g)
    (hg : W.heap[g]? = some (.cells cur 29 (0, 0))) (hh : ∀ w1, W.grownBy w1 (some g) → Heads w1 cur xs) (hn : xs.length ≤ 200000) (hc : xs.length ≤ cap) (hcs : cur.size = cap) (hcm : cap ≤ maxLen) :
    Calls Tryz.prog 37 #[.slice (some ⟨g, 0, none⟩) xs.length cap, .func (.func 38) #[] #[.pointer (some ⟨r, 0, none⟩)]] W fun e w' =>
      e = .returned (.slice (some ⟨g, 0, none⟩) (stayAt (D t) xs xs.length).length cap) ∧ W.grownBy w' (some g) ∧ ∃ c1, w'.heap[g]? = some (.cells c1 29 (0, 0)) ∧ c1.size = cap ∧ ∀ m, m < (stayAt (D t) xs xs.length).length → ∃ q, (stayAt (D t) xs xs.length)[m]? = some q ∧ c1[m]? = cur[q]? := by
  have HI := Aside0.mk (indexFunc_calls D t hD r g cap xs cur W hr hg (hh W (grown_refl W g)) hn hc)
  have HG := Aside0.mk hg
  have HH := Aside0.mk hh
  have HR := Aside0.mk hr
  have HCM := Aside0.mk hcm
  clear hg hh hr hcm
  obtain ⟨ad, had⟩ : ∃ ad : Addr, ad = ⟨g, 0, none⟩ := ⟨_, rfl⟩
  rw [← had] at HI ⊢
  have HAD := Aside0.mk had
  clear had
  rcases firstDel_spec (D t) xs 0 with ⟨e1, hall⟩ | ⟨k, hk, e1, hdk, hall⟩
  · rw [e1] at HI
    have HALL := Aside0.mk hall
    clear hall e1
    go_enter Tryz.func37, Tryz.ntmps37
    go_wp2_with (go_at_call 65; (with_reducible refine HI.out.mono ?_); rintro e w' ⟨rfl, ⟨nd, rfl⟩⟩)
    go_ret
    have hM := moved_start (D t) xs cur xs.length HALL.out
    rw [stayAt_all (D t) xs _ HALL.out, List.length_range]
    refine ⟨rfl, grown_drewN (grown_refl W g) nd, cur, HG.out, hcs, fun m hm => ⟨m, by first | simp [hm] | (rw [List.getElem?_range hm]), rfl⟩⟩
  · rw [e1, Nat.zero_add] at HI
    have HM0 := Aside0.mk ((moved_start (D t) xs cur k hall).skip hdk)
    have hk1 : ((k : Int) == -1) = false := by first | (simp; done) | (simp; omega)
    clear hall e1
    go_enter Tryz.func37, Tryz.ntmps37
    go_wp2_with (go_at_call 65; (with_reducible refine HI.out.mono ?_); rintro e w' ⟨rfl, ⟨nd, rfl⟩⟩)
    go_loopw [5, 6, 7] (fun v5 v6 v7 wr => ∃ (i j : Nat) (c1 : Array Value), i < j ∧ j ≤ xs.length ∧ v5 = .int .i64 (i : Int) ∧ v6 = .int .i64 (j : Int) ∧ Aside0 (Moved (D t) xs cur c1 i j) ∧ Aside0 (wr.heap[g]? = some (.cells c1 29 (0, 0))) ∧ Aside0 (W.grownBy wr (some g))) (fun _ v6 _ _ => xs.length - (intOf v6).toNat)
    case atStart => exact ⟨k, k + 1, cur, by omega, by omega, rfl, by go_num, HM0, ⟨blk_drewN HG.out nd⟩, ⟨grown_drewN (grown_refl W g) nd⟩⟩
    case round =>
      obtain ⟨i, j, c1, hij, hj, rfl, rfl, HMV, HGR, HK⟩ := hrel
      have HS := HMV.out.size
      by_cases hlt : j < xs.length
      · obtain ⟨ha, h4, A, c, hcur, hxc, hC⟩ := HH.out wr HK.out j xs[j] (List.getElem?_eq_getElem hlt)
        have hlt1 : decide ((j : Int) < (xs.length : Int)) = true := decide_eq_true (by omega)
        have hgd : xs.getD j [] = xs[j] := by simp [List.getD, List.getElem?_eq_getElem hlt]
        have hrw : wr.heap[r]? = some (.cells #[.int .i64 t] 3 (0, 0)) := (HK.out.block r (blk_lt HR.out) (fun e => hrg (Option.some.inj e))).trans HR.out
        have hx0 : wr.cell? (ad.add j) = some (.slice A xs[j].length c) := by
          rw [HAD.out, add_at]
          exact ((blk_cell HGR.out j).trans (HMV.out.rest j (Nat.le_refl _))).trans hcur
        have HC := Aside0.mk (hD xs[j] A c r wr ha h4 hxc hC hrw)
        have HCU := Aside0.mk hcur
        have HGD := Aside0.mk hgd
        obtain ⟨ci, hci⟩ : ∃ ci, c1[i]? = some ci := ⟨c1[i]'(by omega), Array.getElem?_eq_getElem _⟩
        have hx1 : ∀ m, (wr.drewN m).cell? (ad.add i) = some ci := fun m => by
          rw [HAD.out, add_at]
          exact (blk_cell (blk_drewN HGR.out m) i).trans hci
        have hx2 : ∀ m, (wr.drewN m).frozen? (ad.add i) = false := fun m => by
          rw [HAD.out, add_at]
          exact blk_frozen (blk_drewN HGR.out m) i
        have p1 : ((i : Int) < (xs.length : Int)) = True := eq_true (by omega)
        clear ha h4 hcur hC hrw hgd hci HS
        cases hd : D t xs[j] with
        | true =>
          rw [hd] at HC
          have HDD := Aside0.mk hd
          clear hd
          go_wp2_with (go_at_call 38; (with_reducible refine HC.out.mono ?_); rintro e w' ⟨rfl, ⟨nd, rfl⟩⟩)
          go_roundw
          case rel => exact ⟨i, j + 1, c1, by omega, by omega, rfl, by go_num, ⟨HMV.out.skip (by rw [HGD.out]; exact HDD.out)⟩, ⟨blk_drewN HGR.out _⟩, ⟨grown_drewN HK.out _⟩⟩
          case measure => simp [intOf]; omega
        | false =>
          rw [hd] at HC
          have HDD := Aside0.mk hd
          clear hd
          go_wp2_with (go_at_call 38; (with_reducible refine HC.out.mono ?_); rintro e w' ⟨rfl, ⟨nd, rfl⟩⟩)
          go_roundw
          case rel => exact ⟨i + 1, j + 1, _, by omega, by omega, by go_num, by go_num, ⟨HMV.out.keep (by rw [HGD.out]; exact HDD.out) HCU.out⟩, ⟨by rw [HAD.out, add_at]; exact blk_set (blk_drewN HGR.out _) _ _⟩, ⟨by rw [HAD.out, add_at]; exact grown_set (grown_drewN HK.out _) _ _⟩⟩
          case measure => simp [intOf]; omega
      · obtain rfl : j = xs.length := by omega
        have hlt1 : decide ((xs.length : Int) < (xs.length : Int)) = false := decide_eq_false (by omega)
        have hne : (cap = i) = False := eq_false (by omega)
        have hclr : ∀ ty, (Builtin.clear_ #[26] ty #[.slice (some (ad.add i)) (xs.length - i) (cap - i)]).run Tryz.prog wr = .ok (.tuple #[]) (wr.setCells g i (List.replicate (xs.length - i) (.slice none 0 0))) := fun ty => by
          rw [HAD.out, add_at]
          exact Lib.run_clear_slice wr _ _ ty _ Tryz.underlying26 zero43 rfl rfl g i _ _ (by omega) (fun m hm => by rw [blk_cell HGR.out, Array.getElem?_eq_getElem (by omega)]; rfl) (fun m hm => blk_frozen HGR.out _)
        have HX := Aside0.mk (setCells_keeps (w := W) (g := g) (List.replicate (xs.length - i) (.slice none 0 0)) i wr c1 HK.out HGR.out)
        have p1 : ((i : Int) ≤ (xs.length : Int)) = True := eq_true (by omega)
        clear HS
        go_wp2
        go_ret
        obtain ⟨h1, c2, h2, h3, h4⟩ := HX.out
        have hM := HMV.out
        have hl := hM.len
        refine ⟨by rw [← hl]; rfl, h1, c2, h2, by rw [h3, hM.size, hcs], fun m hm => ?_⟩
        obtain ⟨q, q1, q2⟩ := hM.head m (by omega)
        exact ⟨q, q1, (h4 m (by omega)).trans q2⟩
/-- A row of numbers stays where the list's own block alone is written. -/
theorem row_grown {w w1 : World} {g base : Nat} {cur : Array Value} {u : Value} {x : List Int} (hR : (Kd.int .i64).R 3 w base (fun _ => True) u x) (hg : w.heap[g]? = some (.cells cur 29 (0, 0))) (h : w.grownBy w1 (some g)) : (Kd.int .i64).R 3 w1 base (fun _ => True) u x :=
  Kd.R_mono (Kd.R_grown (Kd.R_types hR hg (by decide)) h (fun k hk e => hk.2 (Option.some.inj e))) (fun _ _ => trivial)
theorem Sep.heads {w w1 : World} {g base n cap : Nat} {cur : Array Value} {us : List Value} {xs : List (List Int)} (hS : Sep w base (.slice (some ⟨g, 0, none⟩) n cap) us xs) (hg : w.heap[g]? = some (.cells cur 29 (0, 0))) (hcu : ∀ j, j < us.length → cur[j]? = us[j]?)
    (ha : ∀ x ∈ xs, Ages x ∧ x.length ≤ 4) (h : w.grownBy w1 (some g)) : Heads w1 cur xs := by
  intro j x hx
  have hj : j < xs.length := (List.getElem?_eq_some_iff.1 hx).1
  have hju : j < us.length := by rw [hS.len]; exact hj
  have hu := List.getElem?_eq_getElem hju
  have hR := row_grown (hS.inn j us[j] x hu hx) hg h
  obtain ⟨A, c, e⟩ := Kd.R_slice hR
  have hm := ha x (List.mem_of_getElem? hx)
  rw [e] at hR
  obtain ⟨_, h2, h3⟩ := Kd.R_reads' hR
  exact ⟨hm.1, hm.2, A, c, by rw [hcu j hju, hu, e], h2, h3⟩
theorem stayAt_nodup (D : List Int → Bool) (xs : List (List Int)) (j : Nat) : (stayAt D xs j).Nodup := List.Pairwise.filter _ List.nodup_range
theorem stayAt_lt (D : List Int → Bool) (xs : List (List Int)) (j q : Nat) (h : q ∈ stayAt D xs j) : q < j := List.mem_range.1 (List.mem_filter.1 h).1
theorem stay_filter (D : List Int → Bool) (xs : List (List Int)) : (stayAt D xs xs.length).map (fun q => xs.getD q []) = xs.filter fun x => !D x := by
  have key : (List.range xs.length).map (fun q => xs.getD q []) = xs := by
    apply List.ext_getElem
    · simp
    · intro i h1 h2
      simp [List.getD, List.getElem?_eq_getElem h2]
  conv => rhs; rw [← key]
  rw [List.filter_map]
  rfl
theorem Sep.stays {D : List Int → Bool} {w w1 : World} {g base n cap : Nat} {cur c1 : Array Value} {us : List Value} {xs : List (List Int)} (hS : Sep w base (.slice (some ⟨g, 0, none⟩) n cap) us xs) (hb : base ≤ g) (hg : w.heap[g]? = some (.cells cur 29 (0, 0))) (hcu : ∀ j, j < us.length → cur[j]? = us[j]?)
    (hcap : xs.length ≤ cap) (hcm : cap ≤ maxLen) (h : w.grownBy w1 (some g)) (h1 : w1.heap[g]? = some (.cells c1 29 (0, 0))) (h2 : c1.size = cap) (h3 : ∀ m, m < (stayAt D xs xs.length).length → ∃ q, (stayAt D xs xs.length)[m]? = some q ∧ c1[m]? = cur[q]?) :
    ∃ us', Sep w1 base (.slice (some ⟨g, 0, none⟩) (stayAt D xs xs.length).length cap) us' (xs.filter fun x => !D x) := by
  have hlen : (xs.filter fun x => !D x).length = (stayAt D xs xs.length).length := by rw [← stay_filter]; simp
  have hk := stayAt_len D xs xs.length
  have at_ : ∀ (m : Nat) (u : Value), (c1.toList.take (stayAt D xs xs.length).length)[m]? = some u → ∃ q, (stayAt D xs xs.length)[m]? = some q ∧ us[q]? = some u := by
    intro m u hu
    have hm : m < (stayAt D xs xs.length).length := by
      have := (List.getElem?_eq_some_iff.1 hu).1
      rw [List.length_take] at this
      omega
    obtain ⟨q, q1, q2⟩ := h3 m hm
    rw [List.getElem?_take, if_pos hm, Array.getElem?_toList, q2] at hu
    have hq := stayAt_lt D xs _ q (List.mem_of_getElem? q1)
    exact ⟨q, q1, by rw [← hcu q (by rw [hS.len]; exact hq)]; exact hu⟩
  refine ⟨c1.toList.take (stayAt D xs xs.length).length, ⟨?_, ?_, ?_, ?_⟩⟩
  · have hl : (c1.toList.take (stayAt D xs xs.length).length).length = (stayAt D xs xs.length).length := by rw [List.length_take]; simp; omega
    rw [hl]
    refine ⟨by rw [hl, Nat.mul_one], .inr ⟨g, cap, c1, rfl, hb, h1, by omega, hcm, by rw [h2, Nat.mul_one], by rw [Nat.mul_one]⟩⟩
  · rw [hlen, List.length_take]; simp; omega
  · intro m u x hu hx
    obtain ⟨q, q1, q2⟩ := at_ m u hu
    rw [← stay_filter, List.getElem?_map, q1] at hx
    have hq := stayAt_lt D xs _ q (List.mem_of_getElem? q1)
    have hx2 : xs[q]? = some x := by
      simp only [Option.map_some, Option.some.injEq] at hx
      rw [List.getElem?_eq_getElem hq, ← hx]
      simp [List.getD, List.getElem?_eq_getElem hq]
    exact row_grown (hS.inn q u x q2 hx2) hg h
  · intro i j u u' k hu hu' hk1 hk2
    obtain ⟨q, q1, q2⟩ := at_ i u hu
    obtain ⟨q', q1', q2'⟩ := at_ j u' hu'
    have e := hS.dis q q' u u' k q2 q2' hk1 hk2
    subst e
    have hi := (List.getElem?_eq_some_iff.1 q1).1
    exact (List.getElem?_inj hi (stayAt_nodup D xs _)).1 (q1.trans q1'.symm)
set_option maxHeartbeats 800000 in
set_option maxRecDepth 100000 in
theorem indexFunc_nil (r : Nat) (W : World) : Calls Tryz.prog 65 #[.slice none 0 0, .func (.func 38) #[] #[.pointer (some ⟨r, 0, none⟩)]] W fun e w' => e = .returned (.int .i64 (-1)) ∧ w' = W := by
  go_enter Tryz.func65, Tryz.ntmps65
  go_wp2
  go_loopw [8] (fun v8 wr => v8 = .int .i64 0 ∧ Aside0 (wr = W)) (fun _ _ => 0)
  case atStart => exact ⟨rfl, ⟨rfl⟩⟩
  case round =>
    obtain ⟨rfl, HW⟩ := hrel
    go_wp2
    go_ret
    exact ⟨rfl, HW.out⟩
set_option maxHeartbeats 800000 in
set_option maxRecDepth 100000 in
theorem deleteFunc_nil (r : Nat) (W : World) : Calls Tryz.prog 37 #[.slice none 0 0, .func (.func 38) #[] #[.pointer (some ⟨r, 0, none⟩)]] W fun e w' => e = .returned (.slice none 0 0) ∧ w' = W := by
  have HI := Aside0.mk (indexFunc_nil r W)
  go_enter Tryz.func37, Tryz.ntmps37
  go_wp2_with (go_at_call 65; (with_reducible refine HI.out.mono ?_); rintro e w' ⟨rfl, rfl⟩)
  go_ret
  exact ⟨rfl, rfl⟩
/-- Somebody is not so far above the one before. -/
def brokenB (ap : Int) : List Int → Bool
  | a :: b :: r => decide (b - a < ap) || brokenB ap (b :: r)
  | _ => false
theorem broken_iff (ap : Int) : ∀ s : List Int, brokenB ap s = true ↔ ∃ j : Nat, 1 ≤ j ∧ j < s.length ∧ rd s (j : Int) - rd s ((j - 1 : Nat) : Int) < ap
  | [] => by simp [brokenB]
  | [x] => by
    constructor
    · intro h; cases h
    · rintro ⟨j, h1, h2, _⟩; simp at h2; omega
  | a :: b :: r => by
    have ih := broken_iff ap (b :: r)
    show (decide (b - a < ap) || brokenB ap (b :: r)) = true ↔ _
    rw [Bool.or_eq_true, ih, decide_eq_true_iff]
    constructor
    · rintro (h | ⟨j, h1, h2, h3⟩)
      · exact ⟨1, by omega, by simp, h⟩
      · refine ⟨j + 1, by omega, by simp at h2 ⊢; omega, ?_⟩
        obtain ⟨i, rfl⟩ : ∃ i, j = i + 1 := ⟨j - 1, by omega⟩
        exact h3
    · rintro ⟨j, h1, h2, h3⟩
      by_cases hj : j = 1
      · subst hj; left; exact h3
      · right
        obtain ⟨i, rfl⟩ : ∃ i, j = i + 2 := ⟨j - 2, by omega⟩
        refine ⟨i + 1, by omega, by simp at h2 ⊢; omega, ?_⟩
        exact h3
set_option maxHeartbeats 800000 in
set_option maxRecDepth 100000 in
theorem asks_broken (t : Int) (ht0 : 0 ≤ t) (ht1 : t ≤ 20) (s : List Int) (A : Option Addr) (c r : Nat) (W : World) (ha : Ages s) (h4 : s.length ≤ 4) (hcc : s.length ≤ c) (hC : (Kd.int .i64).C W A s.length s) (hr : W.heap[r]? = some (.cells #[.int .i64 t] 3 (0, 0))) :
    Calls Tryz.prog 38 #[.slice A s.length c, .pointer (some ⟨r, 0, none⟩)] W fun e w' => e = .returned (.bool (brokenB t s)) ∧ Drawn0 W w' := by
  have HR := Aside0.mk (fun m => (blk_cell (blk_drewN hr m) 0).trans rfl)
  have HC := Aside0.mk hC
  have HA := Aside0.mk ha
  clear hr hC ha
  go_enter Tryz.func38, Tryz.ntmps38
  go_wp2
  go_loopw [4] (fun v4 wr => ∃ i : Nat, 1 ≤ i ∧ (i ≤ s.length ∨ i = 1) ∧ v4 = .int .i64 (i : Int) ∧ Aside0 (∀ j : Nat, 1 ≤ j → j < i → j < s.length → ¬ rd s (j : Int) - rd s ((j - 1 : Nat) : Int) < t) ∧ Aside0 (∃ m, wr = W.drewN m)) (fun v4 _ => s.length - (intOf v4).toNat)
  case atStart => exact ⟨1, Nat.le_refl _, .inr rfl, rfl, ⟨fun j h1 h2 => by omega⟩, ⟨0, rfl⟩⟩
  case round =>
    obtain ⟨i, h1, hi, rfl, HF, HM⟩ := hrel
    have HCw := Aside0.mk (show (Kd.int .i64).C wr A s.length s by obtain ⟨m0, rfl⟩ := HM.out; exact Kd.C_drewN HC.out m0)
    have hrr : wr.cell? ⟨r, 0, none⟩ = some (.int .i64 t) := by obtain ⟨m0, rfl⟩ := HM.out; exact HR.out m0
    have HW := Aside0.mk (fun n => show ∃ m, wr.drewN n = W.drewN m by obtain ⟨m0, rfl⟩ := HM.out; exact ⟨m0 + n, World.drewN_drewN _ _ _⟩)
    by_cases hlt : i < s.length
    · have hlt1 : decide ((i : Int) < (s.length : Int)) = true := decide_eq_true (by omega)
      obtain ⟨ad, rfl, hx0⟩ := Kd.at_int HCw.out (i : Int) (by omega) (by omega)
      obtain ⟨ad', he, hx1⟩ := Kd.at_int HCw.out ((i - 1 : Nat) : Int) (by omega) (by omega)
      obtain rfl : ad = ad' := by injection he
      clear he
      rw [Int.toNat_natCast] at hx0 hx1
      have b1 := HA.out (s[i]) (List.getElem_mem hlt)
      have b0 := HA.out (s[i - 1]'(by omega)) (List.getElem_mem _)
      have e1 : rd s (i : Int) = s[i] := by simp [rd, List.getD, List.getElem?_eq_getElem hlt]
      have e0 : rd s ((i - 1 : Nat) : Int) = s[i - 1]'(by omega) := by simp [rd, List.getD, List.getElem?_eq_getElem (show i - 1 < s.length by omega)]
      rw [← e1] at b1
      rw [← e0] at b0
      clear e0 e1
      have hsub : IntKind.i64.wrap (rd s (i : Int) - rd s ((i - 1 : Nat) : Int)) = rd s (i : Int) - rd s ((i - 1 : Nat) : Int) := by rw [IntKind.wrap_i64]; omega
      have hidx : ((i : Int) - 1) = ((i - 1 : Nat) : Int) := by omega
      have h0p : ((0 : Int) ≤ ((i - 1 : Nat) : Int)) = True := eq_true (by omega)
      cases hd : decide (rd s (i : Int) - rd s ((i - 1 : Nat) : Int) < t) with
      | true =>
        have HD := Aside0.mk (of_decide_eq_true hd)
        go_wp2
        go_quiet (fail)
        go_wp2
        go_ret
        refine ⟨?_, ⟨HW.out _⟩⟩
        have : brokenB t s = true := (broken_iff t s).2 ⟨i, h1, hlt, HD.out⟩
        rw [this]
        rfl
      | false =>
        have HD := Aside0.mk (of_decide_eq_false hd)
        go_wp2
        go_quiet (fail)
        go_wp2
        go_roundw
        case rel => exact ⟨i + 1, by omega, .inl (by omega), by go_num, ⟨fun j q1 q2 q3 => by
          by_cases e : j = i
          · subst e; have := HD.out; omega
          · have := HF.out j q1 (by omega) q3; omega⟩, ⟨HW.out _⟩⟩
        case measure => simp [intOf]; omega
    · go_wp2
      go_ret
      refine ⟨?_, ⟨HM.out⟩⟩
      have : brokenB t s = false := by
        cases hb : brokenB t s with
        | false => rfl
        | true =>
          obtain ⟨j, q1, q2, q3⟩ := (broken_iff t s).1 hb
          have := HF.out j q1 (by omega) q2; omega
      rw [this]
      rfl
theorem allSets_ages (n : Nat) : ∀ (l s : List Int), Ages l → s ∈ allSets n l → Ages s ∧ s.length = l.length + n := by
  induction n with
  | zero =>
    intro l s hl hs
    obtain rfl : s = l := by simpa [allSets] using hs
    exact ⟨hl, rfl⟩
  | succ n ih =>
    intro l s hl hs
    have hf := hl.from_
    simp only [allSets, List.mem_flatten, List.mem_map, List.mem_range] at hs
    obtain ⟨_, ⟨i, hi, rfl⟩, hs⟩ := hs
    obtain ⟨h1, h2⟩ := ih _ s (hl.snoc (by omega) (by omega)) hs
    exact ⟨h1, by rw [h2]; simp; omega⟩
theorem Sep.to_S {w : World} {base : Nat} {v : Value} {us : List Value} {xs : List (List Int)} (h : Sep w base v us xs) : Kd.S (Kd.slice 3 (Kd.int .i64)) 29 w base (fun _ => True) v xs := by
  classical
  let f : Nat → Nat := fun k => if hk : ∃ (j : Nat) (u : Value), us[j]? = some u ∧ u.ownBlock = some k then hk.choose else 0
  have hf : ∀ j u k, us[j]? = some u → u.ownBlock = some k → f k = j := by
    intro j u k hu hk
    have hex : ∃ (j : Nat) (u : Value), us[j]? = some u ∧ u.ownBlock = some k := ⟨j, u, hu, hk⟩
    show (if hk : ∃ (j : Nat) (u : Value), us[j]? = some u ∧ u.ownBlock = some k then hk.choose else 0) = j
    rw [dif_pos hex]
    obtain ⟨u', h1, h2⟩ := hex.choose_spec
    exact h.dis _ _ u' u k h1 hu h2 hk
  refine ⟨f, fun _ _ => trivial, us, ?_, ?_, ?_⟩
  · rw [List.length_zipIdx, ← h.len]; exact h.row
  · rw [List.length_zipIdx, ← h.len]; exact (Nat.mul_one _).symm
  · rintro j ⟨x, i⟩ hx
    have hz := List.getElem?_zipIdx (l := xs) (i := 0) (j := j)
    rw [hx] at hz
    obtain ⟨y, hy, e⟩ := Option.map_eq_some_iff.1 hz.symm
    simp only [Prod.mk.injEq, Nat.zero_add] at e
    obtain ⟨rfl, rfl⟩ := e
    have hj : j < us.length := by rw [h.len]; exact (List.getElem?_eq_some_iff.1 hy).1
    have hu := List.getElem?_eq_getElem hj
    have hty : ∀ k, v.ownBlock = some k → ∃ cells, w.heap[k]? = some (.cells cells 29 (0, 0)) := by
      intro k hk
      rcases h.row.2 with ⟨e, _⟩ | ⟨g, cap, cur, e, _, hc, _⟩
      · rw [e] at hk; cases hk
      · rw [e] at hk
        obtain rfl : g = k := Option.some.inj hk
        exact ⟨cur, hc⟩
    have hR0 := Kd.R_apart' (h.inn j _ _ hu hy) hty (by decide)
    have hR := Kd.R_tight (d := Kd.int .i64) rfl hR0
    exact ⟨us[j], take_drop_one us j hu, Kd.R_mono hR (fun k hk => ⟨⟨trivial, (hR0.1 k hk.symm).2⟩, hf j _ k hu hk.symm⟩)⟩
theorem deleteFunc_S (D : Int → List Int → Bool) (t : Int) (hD : DelAsks t D) (r base : Nat) (xs : List (List Int)) (v : Value) (W : World) (hr : W.heap[r]? = some (.cells #[.int .i64 t] 3 (0, 0)))
    (hS : Kd.S (Kd.slice 3 (Kd.int .i64)) 29 W base (fun _ => True) v xs) (ha : ∀ x ∈ xs, Ages x ∧ x.length ≤ 4) (hn : xs.length ≤ 200000) :
    Calls Tryz.prog 37 #[v, .func (.func 38) #[] #[.pointer (some ⟨r, 0, none⟩)]] W fun e w' => ∃ v', e = .returned v' ∧ Kd.S (Kd.slice 3 (Kd.int .i64)) 29 w' base (fun _ => True) v' (xs.filter fun x => !D t x) ∧ Below base W w' := by
  obtain ⟨us, hs⟩ := Sep.of_S hS
  rcases hs.row.2 with ⟨rfl, e⟩ | ⟨g, cap, cur, rfl, hb, hg, hnc, hcm, hsz, htk⟩
  · have hx : xs = [] := List.eq_nil_of_length_eq_zero (by rw [← hs.len]; exact e)
    subst hx
    refine (deleteFunc_nil r W).mono ?_
    rintro e w' ⟨rfl, rfl⟩
    exact ⟨_, rfl, Kd.S_nil _ _ _ _ _, Below.refl _ _⟩
  · have hl := hs.len
    rw [Nat.mul_one] at hsz htk
    have hrg : r ≠ g := blk_ne hr hg (by decide)
    have hcu : ∀ j, j < us.length → cur[j]? = us[j]? := by
      intro j hj
      have := congrArg (fun l => l[j]?) htk
      simp only [List.getElem?_take, if_pos hj, Array.getElem?_toList] at this
      exact this
    have key := deleteFunc_calls D t hD r g cap xs cur W hr hrg hg (fun w1 h => hs.heads hg hcu ha h) hn (by omega) hsz hcm
    rw [hl]
    refine key.mono ?_
    rintro e w' ⟨rfl, hk, c1, h1, h2, h3⟩
    obtain ⟨us', hs'⟩ := hs.stays hb hg hcu (by omega) hcm hk h1 h2 h3
    exact ⟨_, rfl, hs'.to_S, ⟨hk.os, hk.tape, hk.output, hk.size, fun k hkb => hk.block k (by have := blk_lt hg; omega) (fun e => by have := Option.some.inj e; omega)⟩⟩
def impl_SetsApart.f (c s ap : Int) : Option (List (List Int) × Bool) := if 1 ≤ c ∧ c ≤ 4 ∧ 1 ≤ s ∧ s ≤ 80 ∧ 0 ≤ ap ∧ ap ≤ 20 then some (((allSets c.toNat []).filter (hasSum s)).filter (fun x => !brokenB ap x), true) else some ([], false)
set_option maxHeartbeats 1600000 in
set_option maxRecDepth 100000 in
theorem impl_SetsApart.calls (c s ap : Int) (r1 : List (List Int)) (r2 : Bool) (W : World) (h : impl_SetsApart.f c s ap = some (r1, r2)) :
    Calls Tryz.prog 6 #[.int .i64 c, .int .i64 s, .int .i64 ap] W fun e w' => ∃ v, e = .returned (.tuple #[v, .bool r2]) ∧ Kd.S (Kd.slice 3 (Kd.int .i64)) 29 w' W.heap.size (fun _ => True) v r1 ∧ Below W.heap.size W w' := by
  unfold impl_SetsApart.f at h
  have HB := Aside0.mk (fun w => impl_between.calls ap 0 20 _ w (between_is ap 0 20))
  by_cases hv : 1 ≤ c ∧ c ≤ 4 ∧ 1 ≤ s ∧ s ≤ 80
  · have HL := Aside0.mk (fun w => impl_setsOfSum.calls c s ((allSets c.toNat []).filter (hasSum s)) true w (by unfold impl_setsOfSum.f; rw [if_pos hv]))
    by_cases hp : 0 ≤ ap ∧ ap ≤ 20
    · rw [decide_eq_true hp] at HB
      rw [if_pos ⟨hv.1, hv.2.1, hv.2.2.1, hv.2.2.2, hp.1, hp.2⟩] at h
      simp only [Option.some.injEq, Prod.mk.injEq] at h
      obtain ⟨rfl, rfl⟩ := h
      obtain ⟨xs, hxs⟩ : ∃ xs, xs = (allSets c.toNat []).filter (hasSum s) := ⟨_, rfl⟩
      rw [← hxs] at HL ⊢
      have HP := Aside0.mk hp
      have HAL := Aside0.mk (show ∀ x ∈ xs, Ages x ∧ x.length ≤ 4 by
        intro x hx
        rw [hxs] at hx
        have := allSets_ages c.toNat [] x (fun y hy => by simp at hy) (List.mem_filter.1 hx).1
        exact ⟨this.1, by have := this.2; simp at this; omega⟩)
      have HLN := Aside0.mk (show xs.length ≤ 200000 by
        have h1 := List.length_filter_le (hasSum s) (allSets c.toNat [])
        have h2 := allSets_len c.toNat [] (fun x hx => by simp at hx)
        have h3 : 20 ^ c.toNat ≤ 20 ^ 4 := Nat.pow_le_pow_right (by omega) (by omega)
        rw [hxs]; omega)
      have HDL := Aside0.mk (fun v W1 hr hS => deleteFunc_S brokenB ap (fun s A c r W ha h4 hcc hC hr => asks_broken ap hp.1 hp.2 s A c r W ha h4 hcc hC hr) W.heap.size W.heap.size xs v W1 hr hS HAL.out HLN.out)
      clear hxs hp hv
      go_enter Tryz.func6, Tryz.ntmps6
      go_wp2_with (first | (go_at_call 35; (with_reducible refine (HL.out _).mono ?_); rintro e w1 ⟨v1, rfl, hS, hb⟩; have HS := Aside0.mk hS; have HB1 := Aside0.mk hb; have GR := Aside0.mk (blk_below (blk_new W _) hb); have hcr0 : w1.cell? ⟨W.heap.size, 0, none⟩ = some (.int .i64 ap) := (blk_cell GR.out 0).trans rfl; clear hS hb) | (go_at_call 36; (with_reducible refine (HB.out _).mono ?_); rintro e w' ⟨rfl, ⟨nd, rfl⟩⟩) | (go_at_call 37; (with_reducible refine (HDL.out _ _ (blk_drewN GR.out nd) (Kd.S_lower (Kd.S_drewN HS.out nd) (by simp))).mono ?_); rintro e w3 ⟨v3, rfl, hS3, hB3⟩; have HS3 := Aside0.mk hS3; have HB3 := Aside0.mk hB3; clear hS3 hB3))
      go_ret2
      refine ⟨_, rfl, HS3.out, ?_⟩
      exact (pw_below_drewN (below_then (below_alloc (Below.refl _ _) _) (by simp) HB1.out) nd).trans HB3.out
    · rw [decide_eq_false hp] at HB
      rw [if_neg (fun hx => hp ⟨hx.2.2.2.2.1, hx.2.2.2.2.2⟩)] at h
      simp only [Option.some.injEq, Prod.mk.injEq] at h
      obtain ⟨rfl, rfl⟩ := h
      clear hp hv
      go_enter Tryz.func6, Tryz.ntmps6
      go_wp2_with (first | (go_at_call 35; (with_reducible refine (HL.out _).mono ?_); rintro e w1 ⟨v1, rfl, hS, hb⟩; have HB1 := Aside0.mk hb; have GR := Aside0.mk (blk_below (blk_new W _) hb); have hcr0 : w1.cell? ⟨W.heap.size, 0, none⟩ = some (.int .i64 ap) := (blk_cell GR.out 0).trans rfl; clear hS hb) | (go_at_call 36; (with_reducible refine (HB.out _).mono ?_); rintro e w' ⟨rfl, ⟨nd, rfl⟩⟩))
      go_ret2
      exact ⟨_, rfl, Kd.S_nil _ _ _ _ _, pw_below_drewN (below_then (below_alloc (Below.refl _ _) _) (by simp) HB1.out) nd⟩
  · have HL := Aside0.mk (fun w => impl_setsOfSum.calls c s [] false w (by unfold impl_setsOfSum.f; rw [if_neg hv]))
    rw [if_neg (fun hx => hv ⟨hx.1, hx.2.1, hx.2.2.1, hx.2.2.2.1⟩)] at h
    simp only [Option.some.injEq, Prod.mk.injEq] at h
    obtain ⟨rfl, rfl⟩ := h
    clear hv
    go_enter Tryz.func6, Tryz.ntmps6
    go_wp2_with (first | (go_at_call 35; (with_reducible refine (HL.out _).mono ?_); rintro e w1 ⟨v1, rfl, hS, hb⟩; have HB1 := Aside0.mk hb; clear hS hb))
    go_ret2
    exact ⟨_, rfl, Kd.S_nil _ _ _ _ _, below_then (below_alloc (Below.refl _ _) _) (by simp) HB1.out⟩

end Go.Proofs.YtjfdehjkdbcneaaGreat.E
