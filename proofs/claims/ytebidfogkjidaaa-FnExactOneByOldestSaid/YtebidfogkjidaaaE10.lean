-- WRITTEN by xprint.py, a program of this session that drives the kit's printer: out of the translation. Lean checks it.
import Derived.Test.YtebidfogkjidaaaE0
import Derived.Test.YtebidfogkjidaaaE3
import Derived.Test.YtebidfogkjidaaaE7
import Derived.Test.YtebidfogkjidaaaE8
import Derived.Test.YtebidfogkjidaaaE9
import Derived.Test.YtebidfogkjidaaaWApart
namespace Go.Proofs.Ytebidfogkjidaaa.E
open Go.RowKit Go.Proofs.YtebidfogkjidaaaW.PrintWords Go.Proofs.YtebidfogkjidaaaW.PrintLast
set_option linter.unusedVariables false
set_option linter.unusedSimpArgs false

-- OURS, BY HAND
/-! ### impl_withSum: function 46 -/
-- func impl.withSum
-- ext raw=1
-- seat Ytebidfogkjidaaa
-- needs slices.DeleteFunc[[][]int,[]int]
-- needs impl.total
-- import Derived.Lib.SliceRun
-- import Derived.WalkSpells
def sumL (l : List Int) : Int := l.foldl (· + ·) 0
theorem sumOn (l : List Int) (hl : l.length ≤ 4) (ha : Ages l) : ∀ (n i : Nat) (acc : Int), i + n = l.length → 0 ≤ acc → acc ≤ 20 * i → impl_total.l0 (n + 1) acc l (l.length : Int) (i : Int) = some ((l.drop i).foldl (· + ·) acc) := by
  intro n
  induction n with
  | zero =>
    intro i acc hi h0 h1
    have : ¬ ((i : Int) < (l.length : Int)) := by omega
    rw [impl_total.l0, if_neg this, List.drop_of_length_le (by omega)]
    rfl
  | succ n ih =>
    intro i acc hi h0 h1
    have hlt : i < l.length := by omega
    have hr : rd l (i : Int) = l[i] := by simp [rd, List.getD, List.getElem?_eq_getElem hlt]
    have hx := ha l[i] (List.getElem_mem hlt)
    rw [impl_total.l0, if_pos (by omega), if_pos (by omega), if_pos (by omega), hr, wrap_small (acc + l[i]) (by omega) (by omega), wrap_small ((i : Int) + 1) (by omega) (by omega)]
    have := ih (i + 1) (acc + l[i]) (by omega) (by omega) (by omega)
    rw [List.drop_eq_getElem_cons hlt, List.foldl_cons]
    exact_mod_cast this
theorem total_is (l : List Int) (hl : l.length ≤ 4) (ha : Ages l) : impl_total.f (l.length + 1) l = some (sumL l) := by
  unfold impl_total.f
  exact sumOn l hl ha l.length 0 0 (by omega) (by omega) (by simp)
def hasSum (t : Int) (s : List Int) : Bool := decide (sumL s = t)
/-- What is asked of the function that tells which sets go. -/
def DelAsks (t : Int) (D : Int → List Int → Bool) : Prop := ∀ (s : List Int) (A : Option Addr) (c r : Nat) (W : World), Ages s → s.length ≤ 4 → s.length ≤ c → (Kd.int .i64).C W A s.length s → W.heap[r]? = some (.cells #[.int .i64 t] 3 (0, 0)) →
  Calls Try.prog 60 #[.slice A s.length c, .pointer (some ⟨r, 0, none⟩)] W fun e w' => e = .returned (.bool (D t s)) ∧ Drawn0 W w'
set_option maxHeartbeats 800000 in
set_option maxRecDepth 100000 in
theorem indexFunc_calls (D : Int → List Int → Bool) (t : Int) (hD : DelAsks t D) (r g cap : Nat) (xs : List (List Int)) (cur : Array Value) (W : World) (hr : W.heap[r]? = some (.cells #[.int .i64 t] 3 (0, 0)))
    (hg : W.heap[g]? = some (.cells cur 31 (0, 0))) (hh : Heads W cur xs) (hn : xs.length ≤ 200000) (hc : xs.length ≤ cap) :
    Calls Try.prog 58 #[.slice (some ⟨g, 0, none⟩) xs.length cap, .func (.func 60) #[] #[.pointer (some ⟨r, 0, none⟩)]] W fun e w' => e = .returned (.int .i64 (firstDel (D t) xs 0)) ∧ Drawn0 W w' := by
  obtain ⟨ad, had⟩ : ∃ ad : Addr, ad = ⟨g, 0, none⟩ := ⟨_, rfl⟩
  rw [← had]
  have HAD := Aside0.mk had
  have HG := Aside0.mk hg
  have HH := Aside0.mk hh
  have HR := Aside0.mk hr
  clear hg hh had hr
  go_enter Try.func58, Try.ntmps58
  go_wp2
  go_loopw [8] (fun v8 wr => ∃ i : Nat, i ≤ xs.length ∧ v8 = .int .i64 (i : Int) ∧ Aside0 (firstDel (D t) xs 0 = firstDel (D t) (xs.drop i) i) ∧ Aside0 (∃ m, wr = W.drewN m)) (fun v8 _ => xs.length - (intOf v8).toNat)
  case atStart => exact ⟨0, Nat.zero_le _, rfl, ⟨rfl⟩, ⟨0, rfl⟩⟩
  case round =>
    obtain ⟨i, hi, rfl, HF, HM⟩ := hrel
    obtain ⟨m0, hm0⟩ := HM.out
    clear HM
    subst hm0
    by_cases hlt : i < xs.length
    · have hlt1 : decide ((i : Int) < (xs.length : Int)) = true := decide_eq_true (by omega)
      obtain ⟨ha, h4, A, c, hcur, hxc, hC⟩ := HH.out i xs[i] (List.getElem?_eq_getElem hlt)
      have hx0 : (W.drewN m0).cell? (ad.add i) = some (.slice A xs[i].length c) := by
        rw [HAD.out, add_at]
        exact (blk_cell (blk_drewN HG.out m0) i).trans hcur
      have HC := Aside0.mk (hD xs[i] A c r (W.drewN m0) ha h4 hxc (Kd.C_drewN hC m0) (blk_drewN HR.out m0))
      have hdr : firstDel (D t) (xs.drop i) i = if D t xs[i] = true then (i : Int) else firstDel (D t) (xs.drop (i + 1)) (i + 1) := by rw [List.drop_eq_getElem_cons hlt]; rfl
      have HDR := Aside0.mk hdr
      clear ha h4 hcur hC hdr
      cases hd : D t xs[i] with
      | true =>
        rw [hd] at HC HDR
        clear hd
        go_wp2_with (go_at_call 60; (with_reducible refine HC.out.mono ?_); rintro e w' ⟨rfl, ⟨nd, rfl⟩⟩)
        go_ret
        refine ⟨?_, ⟨_, rfl⟩⟩
        rw [HF.out, HDR.out]
        rfl
      | false =>
        rw [hd] at HC HDR
        clear hd
        go_wp2_with (go_at_call 60; (with_reducible refine HC.out.mono ?_); rintro e w' ⟨rfl, ⟨nd, rfl⟩⟩)
        go_roundw
        case rel => exact ⟨i + 1, by omega, by go_num, ⟨by rw [HF.out, HDR.out]; rfl⟩, ⟨_, rfl⟩⟩
        case measure => simp [intOf]; omega
    · obtain rfl : i = xs.length := by omega
      go_wp2
      go_ret
      refine ⟨?_, ⟨_, rfl⟩⟩
      rw [HF.out, List.drop_of_length_le (Nat.le_refl _)]
      rfl
set_option maxHeartbeats 1600000 in
set_option maxRecDepth 100000 in
theorem deleteFunc_calls (D : Int → List Int → Bool) (t : Int) (hD : DelAsks t D) (r g cap : Nat) (xs : List (List Int)) (cur : Array Value) (W : World) (hr : W.heap[r]? = some (.cells #[.int .i64 t] 3 (0, 0))) (hrg : r ≠ g)
    (hg : W.heap[g]? = some (.cells cur 31 (0, 0))) (hh : ∀ w1, W.grownBy w1 (some g) → Heads w1 cur xs) (hn : xs.length ≤ 200000) (hc : xs.length ≤ cap) (hcs : cur.size = cap) (hcm : cap ≤ maxLen) :
    Calls Try.prog 45 #[.slice (some ⟨g, 0, none⟩) xs.length cap, .func (.func 60) #[] #[.pointer (some ⟨r, 0, none⟩)]] W fun e w' =>
      e = .returned (.slice (some ⟨g, 0, none⟩) (stayAt (D t) xs xs.length).length cap) ∧ W.grownBy w' (some g) ∧ ∃ c1, w'.heap[g]? = some (.cells c1 31 (0, 0)) ∧ c1.size = cap ∧ ∀ m, m < (stayAt (D t) xs xs.length).length → ∃ q, (stayAt (D t) xs xs.length)[m]? = some q ∧ c1[m]? = cur[q]? := by
  have HI := Aside0.mk (indexFunc_calls D t hD r g cap xs cur W hr hg (hh W (grown_refl W g)) hn hc)
  have HG := Aside0.mk hg
  have HH := Aside0.mk hh
  have HR := Aside0.mk hr
  have HCM := Aside0.mk hcm
  clear hg hh hr hcm
  obtain ⟨ad, had⟩ : ∃ ad : Addr, ad = ⟨g, 0, none⟩ := ⟨_, rfl⟩
  rw [← had] at HI ⊢
  have HAD := Aside0.mk had
  clear had
  rcases firstDel_spec (D t) xs 0 with ⟨e1, hall⟩ | ⟨k, hk, e1, hdk, hall⟩
  · rw [e1] at HI
    have HALL := Aside0.mk hall
    clear hall e1
    go_enter Try.func45, Try.ntmps45
    go_wp2_with (go_at_call 58; (with_reducible refine HI.out.mono ?_); rintro e w' ⟨rfl, ⟨nd, rfl⟩⟩)
    go_ret
    have hM := moved_start (D t) xs cur xs.length HALL.out
    rw [stayAt_all (D t) xs _ HALL.out, List.length_range]
    refine ⟨rfl, grown_drewN (grown_refl W g) nd, cur, HG.out, hcs, fun m hm => ⟨m, by first | simp [hm] | (rw [List.getElem?_range hm]), rfl⟩⟩
  · rw [e1, Nat.zero_add] at HI
    have HM0 := Aside0.mk ((moved_start (D t) xs cur k hall).skip hdk)
    have hk1 : ((k : Int) == -1) = false := by first | (simp; done) | (simp; omega)
    clear hall e1
    go_enter Try.func45, Try.ntmps45
    go_wp2_with (go_at_call 58; (with_reducible refine HI.out.mono ?_); rintro e w' ⟨rfl, ⟨nd, rfl⟩⟩)
    go_loopw [5, 6, 7] (fun v5 v6 v7 wr => ∃ (i j : Nat) (c1 : Array Value), i < j ∧ j ≤ xs.length ∧ v5 = .int .i64 (i : Int) ∧ v6 = .int .i64 (j : Int) ∧ Aside0 (Moved (D t) xs cur c1 i j) ∧ Aside0 (wr.heap[g]? = some (.cells c1 31 (0, 0))) ∧ Aside0 (W.grownBy wr (some g))) (fun _ v6 _ _ => xs.length - (intOf v6).toNat)
    case atStart => exact ⟨k, k + 1, cur, by omega, by omega, rfl, by go_num, HM0, ⟨blk_drewN HG.out nd⟩, ⟨grown_drewN (grown_refl W g) nd⟩⟩
    case round =>
      obtain ⟨i, j, c1, hij, hj, rfl, rfl, HMV, HGR, HK⟩ := hrel
      have HS := HMV.out.size
      by_cases hlt : j < xs.length
      · obtain ⟨ha, h4, A, c, hcur, hxc, hC⟩ := HH.out wr HK.out j xs[j] (List.getElem?_eq_getElem hlt)
        have hlt1 : decide ((j : Int) < (xs.length : Int)) = true := decide_eq_true (by omega)
        have hgd : xs.getD j [] = xs[j] := by simp [List.getD, List.getElem?_eq_getElem hlt]
        have hrw : wr.heap[r]? = some (.cells #[.int .i64 t] 3 (0, 0)) := (HK.out.block r (blk_lt HR.out) (fun e => hrg (Option.some.inj e))).trans HR.out
        have hx0 : wr.cell? (ad.add j) = some (.slice A xs[j].length c) := by
          rw [HAD.out, add_at]
          exact ((blk_cell HGR.out j).trans (HMV.out.rest j (Nat.le_refl _))).trans hcur
        have HC := Aside0.mk (hD xs[j] A c r wr ha h4 hxc hC hrw)
        have HCU := Aside0.mk hcur
        have HGD := Aside0.mk hgd
        obtain ⟨ci, hci⟩ : ∃ ci, c1[i]? = some ci := ⟨c1[i]'(by omega), Array.getElem?_eq_getElem _⟩
        have hx1 : ∀ m, (wr.drewN m).cell? (ad.add i) = some ci := fun m => by
          rw [HAD.out, add_at]
          exact (blk_cell (blk_drewN HGR.out m) i).trans hci
        have hx2 : ∀ m, (wr.drewN m).frozen? (ad.add i) = false := fun m => by
          rw [HAD.out, add_at]
          exact blk_frozen (blk_drewN HGR.out m) i
        have p1 : ((i : Int) < (xs.length : Int)) = True := eq_true (by omega)
        clear ha h4 hcur hC hrw hgd hci HS
        cases hd : D t xs[j] with
        | true =>
          rw [hd] at HC
          have HDD := Aside0.mk hd
          clear hd
          go_wp2_with (go_at_call 60; (with_reducible refine HC.out.mono ?_); rintro e w' ⟨rfl, ⟨nd, rfl⟩⟩)
          go_roundw
          case rel => exact ⟨i, j + 1, c1, by omega, by omega, rfl, by go_num, ⟨HMV.out.skip (by rw [HGD.out]; exact HDD.out)⟩, ⟨blk_drewN HGR.out _⟩, ⟨grown_drewN HK.out _⟩⟩
          case measure => simp [intOf]; omega
        | false =>
          rw [hd] at HC
          have HDD := Aside0.mk hd
          clear hd
          go_wp2_with (go_at_call 60; (with_reducible refine HC.out.mono ?_); rintro e w' ⟨rfl, ⟨nd, rfl⟩⟩)
          go_roundw
          case rel => exact ⟨i + 1, j + 1, _, by omega, by omega, by go_num, by go_num, ⟨HMV.out.keep (by rw [HGD.out]; exact HDD.out) HCU.out⟩, ⟨by rw [HAD.out, add_at]; exact blk_set (blk_drewN HGR.out _) _ _⟩, ⟨by rw [HAD.out, add_at]; exact grown_set (grown_drewN HK.out _) _ _⟩⟩
          case measure => simp [intOf]; omega
      · obtain rfl : j = xs.length := by omega
        have hlt1 : decide ((xs.length : Int) < (xs.length : Int)) = false := decide_eq_false (by omega)
        have hne : (cap = i) = False := eq_false (by omega)
        have hclr : ∀ ty, (Builtin.clear_ #[25] ty #[.slice (some (ad.add i)) (xs.length - i) (cap - i)]).run Try.prog wr = .ok (.tuple #[]) (wr.setCells g i (List.replicate (xs.length - i) (.slice none 0 0))) := fun ty => by
          rw [HAD.out, add_at]
          exact Lib.run_clear_slice wr _ _ ty _ Try.underlying25 zero43 rfl rfl g i _ _ (by omega) (fun m hm => by rw [blk_cell HGR.out, Array.getElem?_eq_getElem (by omega)]; rfl) (fun m hm => blk_frozen HGR.out _)
        have HX := Aside0.mk (setCells_keeps (w := W) (g := g) (List.replicate (xs.length - i) (.slice none 0 0)) i wr c1 HK.out HGR.out)
        have p1 : ((i : Int) ≤ (xs.length : Int)) = True := eq_true (by omega)
        clear HS
        go_wp2
        go_ret
        obtain ⟨h1, c2, h2, h3, h4⟩ := HX.out
        have hM := HMV.out
        have hl := hM.len
        refine ⟨by rw [← hl]; rfl, h1, c2, h2, by rw [h3, hM.size, hcs], fun m hm => ?_⟩
        obtain ⟨q, q1, q2⟩ := hM.head m (by omega)
        exact ⟨q, q1, (h4 m (by omega)).trans q2⟩
set_option maxHeartbeats 800000 in
set_option maxRecDepth 100000 in
theorem indexFunc_nil (r : Nat) (W : World) : Calls Try.prog 58 #[.slice none 0 0, .func (.func 60) #[] #[.pointer (some ⟨r, 0, none⟩)]] W fun e w' => e = .returned (.int .i64 (-1)) ∧ w' = W := by
  go_enter Try.func58, Try.ntmps58
  go_wp2
  go_loopw [8] (fun v8 wr => v8 = .int .i64 0 ∧ Aside0 (wr = W)) (fun _ _ => 0)
  case atStart => exact ⟨rfl, ⟨rfl⟩⟩
  case round =>
    obtain ⟨rfl, HW⟩ := hrel
    go_wp2
    go_ret
    exact ⟨rfl, HW.out⟩
set_option maxHeartbeats 800000 in
set_option maxRecDepth 100000 in
theorem deleteFunc_nil (r : Nat) (W : World) : Calls Try.prog 45 #[.slice none 0 0, .func (.func 60) #[] #[.pointer (some ⟨r, 0, none⟩)]] W fun e w' => e = .returned (.slice none 0 0) ∧ w' = W := by
  have HI := Aside0.mk (indexFunc_nil r W)
  go_enter Try.func45, Try.ntmps45
  go_wp2_with (go_at_call 58; (with_reducible refine HI.out.mono ?_); rintro e w' ⟨rfl, rfl⟩)
  go_ret
  exact ⟨rfl, rfl⟩

theorem deleteFunc_G (D : Int → List Int → Bool) (t : Int) (hD : DelAsks t D) (r base : Nat) (xs : List (List Int)) (v : Value) (W : World) (hr : W.heap[r]? = some (.cells #[.int .i64 t] 3 (0, 0)))
    (hS : Kd.S (Kd.slice 3 (Kd.int .i64)) 31 W base (fun _ => True) v xs) (ha : ∀ x ∈ xs, Ages x ∧ x.length ≤ 4) (hn : xs.length ≤ 200000) :
    Calls Try.prog 45 #[v, .func (.func 60) #[] #[.pointer (some ⟨r, 0, none⟩)]] W fun e w' => ∃ v', e = .returned v' ∧ Kd.S (Kd.slice 3 (Kd.int .i64)) 31 w' base (fun _ => True) v' (xs.filter fun x => !D t x) ∧ W.grownBy w' v.ownBlock := by
  obtain ⟨us, hs⟩ := Sep.of_S hS
  rcases hs.row.2 with ⟨rfl, e⟩ | ⟨g, cap, cur, rfl, hb, hg, hnc, hcm, hsz, htk⟩
  · have hx : xs = [] := List.eq_nil_of_length_eq_zero (by rw [← hs.len]; exact e)
    subst hx
    refine (deleteFunc_nil r W).mono ?_
    rintro e w' ⟨rfl, rfl⟩
    exact ⟨_, rfl, Kd.S_nil _ _ _ _ _, ⟨rfl, rfl, rfl, Nat.le_refl _, fun _ _ _ => rfl⟩⟩
  · have hl := hs.len
    rw [Nat.mul_one] at hsz htk
    have hrg : r ≠ g := blk_ne hr hg (by decide)
    have hcu : ∀ j, j < us.length → cur[j]? = us[j]? := by
      intro j hj
      have := congrArg (fun l => l[j]?) htk
      simp only [List.getElem?_take, if_pos hj, Array.getElem?_toList] at this
      exact this
    have key := deleteFunc_calls D t hD r g cap xs cur W hr hrg hg (fun w1 h => hs.heads hg hcu ha h) hn (by omega) hsz hcm
    rw [hl]
    refine key.mono ?_
    rintro e w' ⟨rfl, hk, c1, h1, h2, h3⟩
    obtain ⟨us', hs'⟩ := hs.stays hb hg hcu (by omega) hcm hk h1 h2 h3
    exact ⟨_, rfl, hs'.to_S, hk⟩

set_option maxHeartbeats 800000 in
set_option maxRecDepth 100000 in
theorem asks_other (t : Int) (s : List Int) (A : Option Addr) (c r : Nat) (W : World) (ha : Ages s) (h4 : s.length ≤ 4) (hcc : s.length ≤ c) (hC : (Kd.int .i64).C W A s.length s) (hr : W.heap[r]? = some (.cells #[.int .i64 t] 3 (0, 0))) :
    Calls Try.prog 60 #[.slice A s.length c, .pointer (some ⟨r, 0, none⟩)] W fun e w' => e = .returned (.bool (!hasSum t s)) ∧ Drawn0 W w' := by
  have HP := Aside0.mk (fun n => impl_total.calls _ A c s _ (W.drewN n) (Kd.C_drewN hC n) hcc (total_is s h4 ha))
  have hc1 := fun m => blk_cell (blk_drewN hr m) 0
  simp only [List.getElem?_toArray, List.getElem?_cons_zero] at hc1
  have e1 : (!(sumL s == t)) = !hasSum t s := rfl
  clear hC
  go_enter Try.func60, Try.ntmps60
  go_wp2
  go_quiet ((go_at_call 61; (with_reducible refine (HP.out _).mono ?_); rintro e w' ⟨rfl, ⟨nd, rfl⟩⟩; exact ⟨rfl, _, World.drewN_drewN _ _ _⟩))
  go_wp2
  go_ret
  exact ⟨by rw [← e1]; rfl, ⟨_, rfl⟩⟩
set_option maxHeartbeats 8000000 in
set_option maxRecDepth 100000 in
theorem withSum_calls (t : Int) (base : Nat) (xs : List (List Int)) (v : Value) (W : World) (hS : Kd.S (Kd.slice 3 (Kd.int .i64)) 31 W base (fun _ => True) v xs) (hle : base ≤ W.heap.size) (ha : ∀ x ∈ xs, Ages x ∧ x.length ≤ 4) (hn : xs.length ≤ 200000) :
    Calls Try.prog 46 #[v, .int .i64 t] W fun e w' => ∃ v', e = .returned v' ∧ Kd.S (Kd.slice 3 (Kd.int .i64)) 31 w' base (fun _ => True) v' (xs.filter (hasSum t)) ∧ Below W.heap.size W w' := by
  obtain ⟨us, hs⟩ := Sep.of_S hS
  obtain ⟨A, c, rfl, hc, hC⟩ := hs.cells
  have hlu := hs.len
  have HL := Aside0.mk (fun W1 (h : Kd.C rawKd W1 A us.length us) => cloneRows.calls A c us us W1 h hc (by omega) rfl)
  have HS := Aside0.mk hs
  have HC := Aside0.mk hC
  have HLE := Aside0.mk hle
  have HD := Aside0.mk (fun (r : Nat) (v2 : Value) (W2 : World) hr hS2 => deleteFunc_G (fun t x => !hasSum t x) t (fun s A c r W ha h4 hcc hC hr => asks_other t s A c r W ha h4 hcc hC hr) r base xs v2 W2 hr hS2 ha hn)
  have HF := Aside0.mk (show (xs.filter fun x => !(!hasSum t x)) = xs.filter (hasSum t) by congr 1; funext x; simp)
  clear hs hC hle ha hn hlu hc hS
  go_enter Try.func46, Try.ntmps46
  go_wp2_with (first | (go_at_call 59; (with_reducible refine (HL.out _ ?hC).mono ?_); (case hC => exact Kd.C_below HC.out (below_alloc (Below.refl _ _) _)); rintro e w1 ⟨v1, rfl, hR, hb⟩; have HB1 := Aside0.mk (show Below W.heap.size W w1 from below_then (below_alloc (Below.refl _ _) _) (by simp) hb); have GR := Aside0.mk (blk_below (blk_new W _) hb); have HS2 := Aside0.mk (Sep.raw (D := fun _ => false) HS.out HB1.out (Nat.le_trans HLE.out (by simp)) hR (stayAt_none xs us HS.out.len)).to_S; have HBS := Aside0.mk (Kd.R_base hR); clear hR hb) | (go_at_call 45; (with_reducible refine (HD.out _ _ _ GR.out (by rw [← filter_none xs]; exact HS2.out)).mono ?_); rintro e w3 ⟨v3, rfl, hS3, hB3⟩; have HS3 := Aside0.mk hS3; have HB3 := Aside0.mk hB3; clear hS3 hB3))
  go_ret
  refine ⟨_, rfl, ?_, ?_⟩
  · rw [← HF.out]
    exact HS3.out
  · exact HB1.out.grown HB3.out HB1.out.size (fun k hk => Nat.le_trans (by simp) (HBS.out k hk))

end Go.Proofs.Ytebidfogkjidaaa.E
