-- WRITTEN by xprint.py, a program of this session that drives the kit's printer: out of the translation. Lean checks it.
import Derived.Test.YtlbnhjeblknepaaGreatE0
import Derived.Test.YtlbnhjeblknepaaGreatEa
import Derived.Test.YtlbnhjeblknepaaGreatEb
import Derived.Test.YtlbnhjeblknepaaGreatE19
import Derived.Test.YtlbnhjeblknepaaGreatE20
import Derived.Test.YtlbnhjeblknepaaGreatE21
import Derived.Test.YtlbnhjeblknepaaGreatWm
namespace Go.Proofs.YtlbnhjeblknepaaGreat.E
open Go.RowKit Go.Proofs.YtlbnhjeblknepaaGreatW.PrintWords Go.Proofs.YtlbnhjeblknepaaGreatW.PrintLast Go.Proofs.YtlbnhjeblknepaaGreatW.PrintMore
attribute [local go_sem] max2_int min2_int max_two min_two max_three min_three max_four min_four   -- for this text's walks alone
set_option linter.unusedVariables false
set_option linter.unusedSimpArgs false

-- OURS, BY HAND
/-! ### impl_told: function 43 -/
-- func impl.told
-- ext raw=1
-- needs impl.openSums
-- needs impl.withSum
-- needs slices.DeleteFunc[[][]int,[]int]
-- needs slices.SortFunc[[][]int,[]int]
-- needs slices.Compare[[]int,int]
-- needs spec.siTold
-- needs impl.hasOldest
-- needs impl.hasYoungest
-- import Derived.WalkKit
-- import Derived.Deep.RegionWith
-- import Derived.Deep.RegionLaw
-- import Derived.IntWalk
-- import Derived.WalkSpells
-- import Derived.Lib.SliceRun
-- import Derived.Shelf.SlSortCmp.Whole1
-- import Derived.Sort.OwnSortedInts
/-- The function that tells: 1 the oldest, else the youngest. -/
def fnOf (t : Int) : Nat := if t = 1 then 44 else 48
/-- The headers of a list's rows lie in cells, the rows are read; none is empty. -/
def HeadsT (W : World) (cur : Array Value) (xs : List (List Int)) : Prop :=
  ∀ (j : Nat) (x : List Int), xs[j]? = some x → Ages x ∧ (1 ≤ x.length ∧ x.length ≤ 4) ∧ ∃ A c, cur[j]? = some (.slice A x.length c) ∧ x.length ≤ c ∧ (Kd.int .i64).C W A x.length x
/-- What is asked of the function that tells which sets go. -/
def DelAsksT (t : Int) (D : Int → List Int → Bool) : Prop := ∀ (s : List Int) (A : Option Addr) (c r : Nat) (W : World), Ages s → (1 ≤ s.length ∧ s.length ≤ 4) → s.length ≤ c → (Kd.int .i64).C W A s.length s → W.heap[r]? = some (.cells #[.func (.func (fnOf t)) #[] #[]] 37 (0, 0)) →
  Calls Tryz.prog 79 #[.slice A s.length c, .pointer (some ⟨r, 0, none⟩)] W fun e w' => e = .returned (.bool (D t s)) ∧ Drawn0 W w'
set_option maxHeartbeats 800000 in
set_option maxRecDepth 100000 in
theorem indexFunc_callsT (D : Int → List Int → Bool) (t : Int) (hD : DelAsksT t D) (r g cap : Nat) (xs : List (List Int)) (cur : Array Value) (W : World) (hr : W.heap[r]? = some (.cells #[.func (.func (fnOf t)) #[] #[]] 37 (0, 0)))
    (hg : W.heap[g]? = some (.cells cur 31 (0, 0))) (hh : HeadsT W cur xs) (hn : xs.length ≤ 200000) (hc : xs.length ≤ cap) :
    Calls Tryz.prog 104 #[.slice (some ⟨g, 0, none⟩) xs.length cap, .func (.func 79) #[] #[.pointer (some ⟨r, 0, none⟩)]] W fun e w' => e = .returned (.int .i64 (firstDel (D t) xs 0)) ∧ Drawn0 W w' := by
  obtain ⟨ad, had⟩ : ∃ ad : Addr, ad = ⟨g, 0, none⟩ := ⟨_, rfl⟩
  rw [← had]
  have HAD := Aside0.mk had
  have HG := Aside0.mk hg
  have HH := Aside0.mk hh
  have HR := Aside0.mk hr
  clear hg hh had hr
  go_enter Tryz.func104, Tryz.ntmps104
  go_wp2
  go_loopw [8] (fun v8 wr => ∃ i : Nat, i ≤ xs.length ∧ v8 = .int .i64 (i : Int) ∧ Aside0 (firstDel (D t) xs 0 = firstDel (D t) (xs.drop i) i) ∧ Aside0 (∃ m, wr = W.drewN m)) (fun v8 _ => xs.length - (intOf v8).toNat)
  case atStart => exact ⟨0, Nat.zero_le _, rfl, ⟨rfl⟩, ⟨0, rfl⟩⟩
  case round =>
    obtain ⟨i, hi, rfl, HF, HM⟩ := hrel
    obtain ⟨m0, hm0⟩ := HM.out
    clear HM
    subst hm0
    by_cases hlt : i < xs.length
    · have hlt1 : decide ((i : Int) < (xs.length : Int)) = true := decide_eq_true (by omega)
      obtain ⟨ha, h4, A, c, hcur, hxc, hC⟩ := HH.out i xs[i] (List.getElem?_eq_getElem hlt)
      have hx0 : (W.drewN m0).cell? (ad.add i) = some (.slice A xs[i].length c) := by
        rw [HAD.out, add_at]
        exact (blk_cell (blk_drewN HG.out m0) i).trans hcur
      have HC := Aside0.mk (hD xs[i] A c r (W.drewN m0) ha h4 hxc (Kd.C_drewN hC m0) (blk_drewN HR.out m0))
      have hdr : firstDel (D t) (xs.drop i) i = if D t xs[i] = true then (i : Int) else firstDel (D t) (xs.drop (i + 1)) (i + 1) := by rw [List.drop_eq_getElem_cons hlt]; rfl
      have HDR := Aside0.mk hdr
      clear ha h4 hcur hC hdr
      cases hd : D t xs[i] with
      | true =>
        rw [hd] at HC HDR
        clear hd
        go_wp2_with (go_at_call 79; (with_reducible refine HC.out.mono ?_); rintro e w' ⟨rfl, ⟨nd, rfl⟩⟩)
        go_ret
        refine ⟨?_, ⟨_, rfl⟩⟩
        rw [HF.out, HDR.out]
        rfl
      | false =>
        rw [hd] at HC HDR
        clear hd
        go_wp2_with (go_at_call 79; (with_reducible refine HC.out.mono ?_); rintro e w' ⟨rfl, ⟨nd, rfl⟩⟩)
        go_roundw
        case rel => exact ⟨i + 1, by omega, by go_num, ⟨by rw [HF.out, HDR.out]; rfl⟩, ⟨_, rfl⟩⟩
        case measure => simp [intOf]; omega
    · obtain rfl : i = xs.length := by omega
      go_wp2
      go_ret
      refine ⟨?_, ⟨_, rfl⟩⟩
      rw [HF.out, List.drop_of_length_le (Nat.le_refl _)]
      rfl
set_option maxHeartbeats 1600000 in
set_option maxRecDepth 100000 in
theorem deleteFunc_callsT (D : Int → List Int → Bool) (t : Int) (hD : DelAsksT t D) (r g cap : Nat) (xs : List (List Int)) (cur : Array Value) (W : World) (hr : W.heap[r]? = some (.cells #[.func (.func (fnOf t)) #[] #[]] 37 (0, 0))) (hrg : r ≠ g)
    (hg : W.heap[g]? = some (.cells cur 31 (0, 0))) (hh : ∀ w1, W.grownBy w1 (some g) → HeadsT w1 cur xs) (hn : xs.length ≤ 200000) (hc : xs.length ≤ cap) (hcs : cur.size = cap) (hcm : cap ≤ maxLen) :
    Calls Tryz.prog 78 #[.slice (some ⟨g, 0, none⟩) xs.length cap, .func (.func 79) #[] #[.pointer (some ⟨r, 0, none⟩)]] W fun e w' =>
      e = .returned (.slice (some ⟨g, 0, none⟩) (stayAt (D t) xs xs.length).length cap) ∧ W.grownBy w' (some g) ∧ ∃ c1, w'.heap[g]? = some (.cells c1 31 (0, 0)) ∧ c1.size = cap ∧ ∀ m, m < (stayAt (D t) xs xs.length).length → ∃ q, (stayAt (D t) xs xs.length)[m]? = some q ∧ c1[m]? = cur[q]? := by
  have HI := Aside0.mk (indexFunc_callsT D t hD r g cap xs cur W hr hg (hh W (grown_refl W g)) hn hc)
  have HG := Aside0.mk hg
  have HH := Aside0.mk hh
  have HR := Aside0.mk hr
  have HCM := Aside0.mk hcm
  clear hg hh hr hcm
  obtain ⟨ad, had⟩ : ∃ ad : Addr, ad = ⟨g, 0, none⟩ := ⟨_, rfl⟩
  rw [← had] at HI ⊢
  have HAD := Aside0.mk had
  clear had
  rcases firstDel_spec (D t) xs 0 with ⟨e1, hall⟩ | ⟨k, hk, e1, hdk, hall⟩
  · rw [e1] at HI
    have HALL := Aside0.mk hall
    clear hall e1
    go_enter Tryz.func78, Tryz.ntmps78
    go_wp2_with (go_at_call 104; (with_reducible refine HI.out.mono ?_); rintro e w' ⟨rfl, ⟨nd, rfl⟩⟩)
    go_ret
    have hM := moved_start (D t) xs cur xs.length HALL.out
    rw [stayAt_all (D t) xs _ HALL.out, List.length_range]
    refine ⟨rfl, grown_drewN (grown_refl W g) nd, cur, HG.out, hcs, fun m hm => ⟨m, by first | simp [hm] | (rw [List.getElem?_range hm]), rfl⟩⟩
  · rw [e1, Nat.zero_add] at HI
    have HM0 := Aside0.mk ((moved_start (D t) xs cur k hall).skip hdk)
    have hk1 : ((k : Int) == -1) = false := by first | (simp; done) | (simp; omega)
    clear hall e1
    go_enter Tryz.func78, Tryz.ntmps78
    go_wp2_with (go_at_call 104; (with_reducible refine HI.out.mono ?_); rintro e w' ⟨rfl, ⟨nd, rfl⟩⟩)
    go_loopw [5, 6, 7] (fun v5 v6 v7 wr => ∃ (i j : Nat) (c1 : Array Value), i < j ∧ j ≤ xs.length ∧ v5 = .int .i64 (i : Int) ∧ v6 = .int .i64 (j : Int) ∧ Aside0 (Moved (D t) xs cur c1 i j) ∧ Aside0 (wr.heap[g]? = some (.cells c1 31 (0, 0))) ∧ Aside0 (W.grownBy wr (some g))) (fun _ v6 _ _ => xs.length - (intOf v6).toNat)
    case atStart => exact ⟨k, k + 1, cur, by omega, by omega, rfl, by go_num, HM0, ⟨blk_drewN HG.out nd⟩, ⟨grown_drewN (grown_refl W g) nd⟩⟩
    case round =>
      obtain ⟨i, j, c1, hij, hj, rfl, rfl, HMV, HGR, HK⟩ := hrel
      have HS := HMV.out.size
      by_cases hlt : j < xs.length
      · obtain ⟨ha, h4, A, c, hcur, hxc, hC⟩ := HH.out wr HK.out j xs[j] (List.getElem?_eq_getElem hlt)
        have hlt1 : decide ((j : Int) < (xs.length : Int)) = true := decide_eq_true (by omega)
        have hgd : xs.getD j [] = xs[j] := by simp [List.getD, List.getElem?_eq_getElem hlt]
        have hrw : wr.heap[r]? = some (.cells #[.func (.func (fnOf t)) #[] #[]] 37 (0, 0)) := (HK.out.block r (blk_lt HR.out) (fun e => hrg (Option.some.inj e))).trans HR.out
        have hx0 : wr.cell? (ad.add j) = some (.slice A xs[j].length c) := by
          rw [HAD.out, add_at]
          exact ((blk_cell HGR.out j).trans (HMV.out.rest j (Nat.le_refl _))).trans hcur
        have HC := Aside0.mk (hD xs[j] A c r wr ha h4 hxc hC hrw)
        have HCU := Aside0.mk hcur
        have HGD := Aside0.mk hgd
        obtain ⟨ci, hci⟩ : ∃ ci, c1[i]? = some ci := ⟨c1[i]'(by omega), Array.getElem?_eq_getElem _⟩
        have hx1 : ∀ m, (wr.drewN m).cell? (ad.add i) = some ci := fun m => by
          rw [HAD.out, add_at]
          exact (blk_cell (blk_drewN HGR.out m) i).trans hci
        have hx2 : ∀ m, (wr.drewN m).frozen? (ad.add i) = false := fun m => by
          rw [HAD.out, add_at]
          exact blk_frozen (blk_drewN HGR.out m) i
        have p1 : ((i : Int) < (xs.length : Int)) = True := eq_true (by omega)
        clear ha h4 hcur hC hrw hgd hci HS
        cases hd : D t xs[j] with
        | true =>
          rw [hd] at HC
          have HDD := Aside0.mk hd
          clear hd
          go_wp2_with (go_at_call 79; (with_reducible refine HC.out.mono ?_); rintro e w' ⟨rfl, ⟨nd, rfl⟩⟩)
          go_roundw
          case rel => exact ⟨i, j + 1, c1, by omega, by omega, rfl, by go_num, ⟨HMV.out.skip (by rw [HGD.out]; exact HDD.out)⟩, ⟨blk_drewN HGR.out _⟩, ⟨grown_drewN HK.out _⟩⟩
          case measure => simp [intOf]; omega
        | false =>
          rw [hd] at HC
          have HDD := Aside0.mk hd
          clear hd
          go_wp2_with (go_at_call 79; (with_reducible refine HC.out.mono ?_); rintro e w' ⟨rfl, ⟨nd, rfl⟩⟩)
          go_roundw
          case rel => exact ⟨i + 1, j + 1, _, by omega, by omega, by go_num, by go_num, ⟨HMV.out.keep (by rw [HGD.out]; exact HDD.out) HCU.out⟩, ⟨by rw [HAD.out, add_at]; exact blk_set (blk_drewN HGR.out _) _ _⟩, ⟨by rw [HAD.out, add_at]; exact grown_set (grown_drewN HK.out _) _ _⟩⟩
          case measure => simp [intOf]; omega
      · obtain rfl : j = xs.length := by omega
        have hlt1 : decide ((xs.length : Int) < (xs.length : Int)) = false := decide_eq_false (by omega)
        have hne : (cap = i) = False := eq_false (by omega)
        have hclr : ∀ ty, (Builtin.clear_ #[26] ty #[.slice (some (ad.add i)) (xs.length - i) (cap - i)]).run Tryz.prog wr = .ok (.tuple #[]) (wr.setCells g i (List.replicate (xs.length - i) (.slice none 0 0))) := fun ty => by
          rw [HAD.out, add_at]
          exact Lib.run_clear_slice wr _ _ ty _ Tryz.underlying26 zero43 rfl rfl g i _ _ (by omega) (fun m hm => by rw [blk_cell HGR.out, Array.getElem?_eq_getElem (by omega)]; rfl) (fun m hm => blk_frozen HGR.out _)
        have HX := Aside0.mk (setCells_keeps (w := W) (g := g) (List.replicate (xs.length - i) (.slice none 0 0)) i wr c1 HK.out HGR.out)
        have p1 : ((i : Int) ≤ (xs.length : Int)) = True := eq_true (by omega)
        clear HS
        go_wp2
        go_ret
        obtain ⟨h1, c2, h2, h3, h4⟩ := HX.out
        have hM := HMV.out
        have hl := hM.len
        refine ⟨by rw [← hl]; rfl, h1, c2, h2, by rw [h3, hM.size, hcs], fun m hm => ?_⟩
        obtain ⟨q, q1, q2⟩ := hM.head m (by omega)
        exact ⟨q, q1, (h4 m (by omega)).trans q2⟩
set_option maxHeartbeats 800000 in
set_option maxRecDepth 100000 in
theorem indexFunc_nilT (r : Nat) (W : World) : Calls Tryz.prog 104 #[.slice none 0 0, .func (.func 79) #[] #[.pointer (some ⟨r, 0, none⟩)]] W fun e w' => e = .returned (.int .i64 (-1)) ∧ w' = W := by
  go_enter Tryz.func104, Tryz.ntmps104
  go_wp2
  go_loopw [8] (fun v8 wr => v8 = .int .i64 0 ∧ Aside0 (wr = W)) (fun _ _ => 0)
  case atStart => exact ⟨rfl, ⟨rfl⟩⟩
  case round =>
    obtain ⟨rfl, HW⟩ := hrel
    go_wp2
    go_ret
    exact ⟨rfl, HW.out⟩
set_option maxHeartbeats 800000 in
set_option maxRecDepth 100000 in
theorem deleteFunc_nilT (r : Nat) (W : World) : Calls Tryz.prog 78 #[.slice none 0 0, .func (.func 79) #[] #[.pointer (some ⟨r, 0, none⟩)]] W fun e w' => e = .returned (.slice none 0 0) ∧ w' = W := by
  have HI := Aside0.mk (indexFunc_nilT r W)
  go_enter Tryz.func78, Tryz.ntmps78
  go_wp2_with (go_at_call 104; (with_reducible refine HI.out.mono ?_); rintro e w' ⟨rfl, rfl⟩)
  go_ret
  exact ⟨rfl, rfl⟩
def pickV (us : List Value) (st : List Nat) : List Value := st.map fun q => us.getD q (.int .i64 0)
theorem raw_of {w' : World} {base g cap : Nat} {cur c1 : Array Value} {us : List Value} {st : List Nat} (hb : base ≤ g) (hg : w'.heap[g]? = some (.cells c1 31 (0, 0))) (hs : c1.size = cap) (hcm : cap ≤ maxLen) (hle : st.length ≤ cap)
    (hm : ∀ m, m < st.length → ∃ q, st[m]? = some q ∧ c1[m]? = cur[q]?) (hcu : ∀ j, j < us.length → cur[j]? = us[j]?) (hst : ∀ q ∈ st, q < us.length) (h1 : ∀ u ∈ us, u.oneCell' = true) :
    Kd.R rawKd 31 w' base (fun _ => True) (.slice (some ⟨g, 0, none⟩) st.length cap) (pickV us st) := by
  have hl : (pickV us st).length = st.length := by simp [pickV]
  have hat : ∀ m, m < st.length → c1[m]? = (pickV us st)[m]? := by
    intro m hml
    obtain ⟨q, hq, hc⟩ := hm m hml
    have hqu := hst q (List.mem_of_getElem? hq)
    rw [hc, hcu q hqu]
    unfold pickV
    rw [List.getElem?_map, hq, Option.map_some, List.getElem?_eq_getElem hqu]
    simp [List.getD, List.getElem?_eq_getElem hqu]
  have htk : c1.toList.take ((pickV us st).length * 1) = pickV us st := by
    rw [Nat.mul_one]
    apply List.ext_getElem?
    intro m
    rw [List.getElem?_take]
    by_cases h : m < (pickV us st).length
    · rw [if_pos h, Array.getElem?_toList]
      exact hat m (by omega)
    · rw [if_neg h, List.getElem?_eq_none (by omega)]
  refine ⟨fun _ _ => trivial, pickV us st, ⟨by rw [show rawKd.sz = 1 from rfl]; omega, .inr ⟨g, cap, c1, by rw [hl], hb, hg, by omega, hcm, by rw [show rawKd.sz = 1 from rfl]; omega, htk⟩⟩, ⟨by rw [show rawKd.sz = 1 from rfl]; omega, fun j p hp => ?_⟩⟩
  refine ⟨take_drop_one _ j hp, ?_⟩
  have := List.mem_of_getElem? hp
  unfold pickV at this
  obtain ⟨q, hq, rfl⟩ := List.mem_map.1 this
  have hqu := hst q hq
  rw [show us.getD q (.int .i64 0) = us[q] by simp [List.getD, List.getElem?_eq_getElem hqu]]
  exact h1 _ (List.getElem_mem _)
theorem stay_lt (D : List Int → Bool) (xs : List (List Int)) (q : Nat) (h : q ∈ stayAt D xs xs.length) : q < xs.length := stayAt_lt D xs xs.length q h
theorem deleteFunc_V (D : Int → List Int → Bool) (t : Int) (hD : DelAsks t D) (r base : Nat) (xs : List (List Int)) (us : List Value) (v : Value) (W : World) (hr : W.heap[r]? = some (.cells #[.int .i64 t] 3 (0, 0)))
    (hR : Kd.R rawKd 31 W base (fun _ => True) v us) (hl : us.length = xs.length) (hrows : ∀ (j : Nat) (x : List Int), xs[j]? = some x → ∃ A1 c1, us[j]? = some (.slice A1 x.length c1) ∧ x.length ≤ c1 ∧ ∀ w1, W.grownBy w1 v.ownBlock → (Kd.int .i64).C w1 A1 x.length x)
    (ha : ∀ x ∈ xs, Ages x ∧ x.length ≤ 4) (hn : xs.length ≤ 200000) :
    Calls Tryz.prog 78 #[v, .func (.func 98) #[] #[.pointer (some ⟨r, 0, none⟩)]] W fun e w' => ∃ v', e = .returned v' ∧ Kd.R rawKd 31 w' base (fun _ => True) v' (pickV us (stayAt (D t) xs xs.length)) ∧ W.grownBy w' v.ownBlock := by
  have h1 : ∀ u ∈ us, u.oneCell' = true := by
    intro u hu
    obtain ⟨j, hj, e⟩ := List.mem_iff_getElem.1 hu
    obtain ⟨A1, c1, q1, _⟩ := hrows j xs[j] (List.getElem?_eq_getElem (by omega))
    rw [List.getElem?_eq_getElem hj, e] at q1
    rw [Option.some.inj q1]
    rfl
  obtain ⟨h0, inner, ho, hreps⟩ := hR
  obtain rfl := reps_raw hreps
  rcases ho.2 with ⟨rfl, e⟩ | ⟨g, cap, cur, rfl, hb, hg, hnc, hcm, hsz, htk⟩
  · have hx : xs = [] := List.eq_nil_of_length_eq_zero (by rw [← hl]; exact e)
    subst hx
    refine (deleteFunc_nil r W).mono ?_
    rintro e w' ⟨rfl, rfl⟩
    exact ⟨_, rfl, Kd.R_nil _ _ _ _ _, ⟨rfl, rfl, rfl, Nat.le_refl _, fun _ _ _ => rfl⟩⟩
  · rw [show rawKd.sz = 1 from rfl, Nat.mul_one] at hsz htk
    have hrg : r ≠ g := blk_ne hr hg (by decide)
    have hcu : ∀ j, j < inner.length → cur[j]? = inner[j]? := by
      intro j hj
      have := congrArg (fun l => l[j]?) htk
      simp only [List.getElem?_take, if_pos hj, Array.getElem?_toList] at this
      exact this
    have hh : ∀ w1, W.grownBy w1 (some g) → Heads w1 cur xs := by
      intro w1 h1 j x hx
      obtain ⟨A1, c1, q1, q2, q3⟩ := hrows j x hx
      have hm := ha x (List.mem_of_getElem? hx)
      exact ⟨hm.1, hm.2, A1, c1, by rw [hcu j (by rw [hl]; exact (List.getElem?_eq_some_iff.1 hx).1), q1], q2, q3 w1 h1⟩
    have key := deleteFunc_calls D t hD r g cap xs cur W hr hrg hg hh hn (by omega) hsz hcm
    rw [hl]
    refine key.mono ?_
    rintro e w' ⟨rfl, hk, c1, hc1, hcs, hmm⟩
    have hsl := stayAt_len (D t) xs xs.length
    exact ⟨_, rfl, raw_of hb hc1 hcs hcm (by omega) hmm hcu (fun q hq => by rw [hl]; exact stay_lt (D t) xs q hq) h1, hk⟩
theorem deleteFuncT_V (D : Int → List Int → Bool) (t : Int) (hD : DelAsksT t D) (r base : Nat) (xs : List (List Int)) (us : List Value) (v : Value) (W : World) (hr : W.heap[r]? = some (.cells #[.func (.func (fnOf t)) #[] #[]] 37 (0, 0)))
    (hR : Kd.R rawKd 31 W base (fun _ => True) v us) (hl : us.length = xs.length) (hrows : ∀ (j : Nat) (x : List Int), xs[j]? = some x → ∃ A1 c1, us[j]? = some (.slice A1 x.length c1) ∧ x.length ≤ c1 ∧ ∀ w1, W.grownBy w1 v.ownBlock → (Kd.int .i64).C w1 A1 x.length x)
    (ha : ∀ x ∈ xs, Ages x ∧ (1 ≤ x.length ∧ x.length ≤ 4)) (hn : xs.length ≤ 200000) :
    Calls Tryz.prog 78 #[v, .func (.func 79) #[] #[.pointer (some ⟨r, 0, none⟩)]] W fun e w' => ∃ v', e = .returned v' ∧ Kd.R rawKd 31 w' base (fun _ => True) v' (pickV us (stayAt (D t) xs xs.length)) ∧ W.grownBy w' v.ownBlock := by
  have h1 : ∀ u ∈ us, u.oneCell' = true := by
    intro u hu
    obtain ⟨j, hj, e⟩ := List.mem_iff_getElem.1 hu
    obtain ⟨A1, c1, q1, _⟩ := hrows j xs[j] (List.getElem?_eq_getElem (by omega))
    rw [List.getElem?_eq_getElem hj, e] at q1
    rw [Option.some.inj q1]
    rfl
  obtain ⟨h0, inner, ho, hreps⟩ := hR
  obtain rfl := reps_raw hreps
  rcases ho.2 with ⟨rfl, e⟩ | ⟨g, cap, cur, rfl, hb, hg, hnc, hcm, hsz, htk⟩
  · have hx : xs = [] := List.eq_nil_of_length_eq_zero (by rw [← hl]; exact e)
    subst hx
    refine (deleteFunc_nilT r W).mono ?_
    rintro e w' ⟨rfl, rfl⟩
    exact ⟨_, rfl, Kd.R_nil _ _ _ _ _, ⟨rfl, rfl, rfl, Nat.le_refl _, fun _ _ _ => rfl⟩⟩
  · rw [show rawKd.sz = 1 from rfl, Nat.mul_one] at hsz htk
    have hrg : r ≠ g := blk_ne hr hg (by decide)
    have hcu : ∀ j, j < inner.length → cur[j]? = inner[j]? := by
      intro j hj
      have := congrArg (fun l => l[j]?) htk
      simp only [List.getElem?_take, if_pos hj, Array.getElem?_toList] at this
      exact this
    have hh : ∀ w1, W.grownBy w1 (some g) → HeadsT w1 cur xs := by
      intro w1 h1 j x hx
      obtain ⟨A1, c1, q1, q2, q3⟩ := hrows j x hx
      have hm := ha x (List.mem_of_getElem? hx)
      exact ⟨hm.1, hm.2, A1, c1, by rw [hcu j (by rw [hl]; exact (List.getElem?_eq_some_iff.1 hx).1), q1], q2, q3 w1 h1⟩
    have key := deleteFunc_callsT D t hD r g cap xs cur W hr hrg hg hh hn (by omega) hsz hcm
    rw [hl]
    refine key.mono ?_
    rintro e w' ⟨rfl, hk, c1, hc1, hcs, hmm⟩
    have hsl := stayAt_len (D t) xs xs.length
    exact ⟨_, rfl, raw_of hb hc1 hcs hcm (by omega) hmm hcu (fun q hq => by rw [hl]; exact stay_lt (D t) xs q hq) h1, hk⟩
set_option maxHeartbeats 8000000 in
/-- The sets of a list that is read with a sum: their headers. -/
theorem withSum_V (t : Int) (A : Option Addr) (c : Nat) (xs : List (List Int)) (us : List Value) (W : World) (hlu : us.length = xs.length) (hCr : Kd.C rawKd W A us.length us)
    (hrows : ∀ (j : Nat) (x : List Int), xs[j]? = some x → ∃ A1 c1, us[j]? = some (.slice A1 x.length c1) ∧ x.length ≤ c1 ∧ (Kd.int .i64).C W A1 x.length x) (hc : xs.length ≤ c) (ha : ∀ x ∈ xs, Ages x ∧ x.length ≤ 4) (hn : xs.length ≤ 200000) :
    Calls Tryz.prog 61 #[.slice A xs.length c, .int .i64 t] W fun e w' => ∃ v', e = .returned v' ∧ Kd.R rawKd 31 w' W.heap.size (fun _ => True) v' (pickV us (stayAt (fun x => !hasSum t x) xs xs.length)) ∧ Below W.heap.size W w' := by
  rw [← hlu] at hc ⊢
  have HL := Aside0.mk (fun W1 (h : Kd.C rawKd W1 A us.length us) => cloneRows.calls A c us us W1 h hc (by omega) rfl)
  have HC := Aside0.mk hCr
  have HR := Aside0.mk hrows
  have HD := Aside0.mk (fun (r : Nat) (v2 : Value) (W2 : World) hr hR2 hrw => deleteFunc_V (fun t x => !hasSum t x) t (fun s A c r W ha h4 hcc hC hr => asks_other t s A c r W ha h4 hcc hC hr) r W.heap.size xs us v2 W2 hr hR2 hlu hrw ha hn)
  have HLU := Aside0.mk hlu
  clear hCr ha hn hlu hc hrows
  go_enter Tryz.func61, Tryz.ntmps61
  go_wp2_with (first | (go_at_call 97; (with_reducible refine (HL.out _ ?hC).mono ?_); (case hC => exact Kd.C_below HC.out (below_alloc (Below.refl _ _) _)); rintro e w1 ⟨v1, rfl, hR, hb⟩; have HB1 := Aside0.mk (show Below W.heap.size W w1 from below_then (below_alloc (Below.refl _ _) _) (by simp) hb); have GR := Aside0.mk (blk_below (blk_new W _) hb); have HBS := Aside0.mk (Kd.R_base hR); have HRR := Aside0.mk (Kd.R_lower hR (show W.heap.size ≤ _ by simp)); clear hR hb) | (go_at_call 78; (with_reducible refine (HD.out _ _ _ GR.out HRR.out ?hrw).mono ?_); (case hrw => (intro j x hx; obtain ⟨A1, c1, q1, q2, q3⟩ := HR.out j x hx; exact ⟨A1, c1, q1, q2, fun w2 h2 => Kd.C_below q3 (HB1.out.grown h2 HB1.out.size (fun k hk => Nat.le_trans (by simp) (HBS.out k hk)))⟩)); rintro e w3 ⟨v3, rfl, hR3, hB3⟩; have HR3 := Aside0.mk hR3; have HB3 := Aside0.mk hB3; clear hR3 hB3))
  go_ret
  rw [HLU.out]
  refine ⟨_, rfl, HR3.out, ?_⟩
  exact HB1.out.grown HB3.out HB1.out.size (fun k hk => Nat.le_trans (by simp) (HBS.out k hk))
set_option maxHeartbeats 1600000 in
theorem told1_calls (t : Int) (b : Bool) (htb : b = decide (t = 1)) (s : List Int) (A : Option Addr) (c r : Nat) (W : World) (h4 : s.length ≤ 4) (h0 : 1 ≤ s.length) (hcc : s.length ≤ c) (hC : (Kd.int .i64).C W A s.length s) (hr : W.heap[r]? = some (.cells #[.func (.func (fnOf t)) #[] #[]] 37 (0, 0))) :
    Calls Tryz.prog 79 #[.slice A s.length c, .pointer (some ⟨r, 0, none⟩)] W fun e w' => e = .returned (.bool (!ageB b s)) ∧ Drawn0 W w' := by
  have hc1 : W.cell? ⟨r, 0, none⟩ = some (.func (.func (fnOf t)) #[] #[]) := (blk_cell hr 0).trans rfl
  cases b with
  | true =>
    have ht : t = 1 := of_decide_eq_true htb.symm
    have hf : fnOf t = 44 := by unfold fnOf; rw [if_pos ht]
    rw [hf] at hc1
    have HP := Aside0.mk (impl_hasOldest.calls A c s _ W hC hcc (hasOldest_val s h0 h4))
    have e1 : ageB true s = oldB s := rfl
    rw [e1]
    clear hr hf ht htb
    go_enter Tryz.func79, Tryz.ntmps79
    go_wp2_with (go_at_call 44; (with_reducible refine HP.out.mono ?_); rintro e w' ⟨rfl, ⟨nd, rfl⟩⟩)
    go_ret
    exact ⟨rfl, ⟨_, rfl⟩⟩
  | false =>
    have ht : ¬ t = 1 := of_decide_eq_false htb.symm
    have hf : fnOf t = 48 := by unfold fnOf; rw [if_neg ht]
    rw [hf] at hc1
    have HP := Aside0.mk (impl_hasYoungest.calls A c s _ W hC hcc (hasYoungest_val s h0 h4))
    have e1 : ageB false s = youngB s := rfl
    rw [e1]
    clear hr hf ht htb
    go_enter Tryz.func79, Tryz.ntmps79
    go_wp2_with (go_at_call 48; (with_reducible refine HP.out.mono ?_); rintro e w' ⟨rfl, ⟨nd, rfl⟩⟩)
    go_ret
    exact ⟨rfl, ⟨_, rfl⟩⟩
open Go.Sort Go.Proofs Go.Shelf in
theorem sortRows (xs : List (List Int)) (us : List Value) (hlu : us.length = xs.length) (st : List Nat) (hst : ∀ q ∈ st, q < xs.length) (B cap : Nat) (cur : Array Value) (W : World) (hg : W.heap[B]? = some (.cells cur 31 (0, 0))) (hsz : st.length ≤ cur.size) (hs2 : st.length ≤ 1000000) (htk : cur.toList.take st.length = pickV us st)
    (hrows : ∀ (j : Nat) (x : List Int), xs[j]? = some x → ∃ A1 c1, us[j]? = some (.slice A1 x.length c1) ∧ x.length ≤ c1 ∧ ∀ w1, W.grownBy w1 (some B) → (Kd.int .i64).C w1 A1 x.length x) (h100 : ∀ x ∈ xs, x.length ≤ 100) :
    Calls Tryz.prog 80 #[.slice (some ⟨B, 0, none⟩) st.length cap, .func (.func 81) #[] #[]] W fun e w' => e = .returned (.tuple #[]) ∧ ∃ st' : List Nat, st'.Perm st ∧ (st'.Pairwise fun a b => ¬ cfQ xs b a < 0) ∧ W.grownBy w' (some B) ∧ ∃ c' : Array Value, w'.heap[B]? = some (.cells c' 31 (0, 0)) ∧ c'.size = cur.size ∧ c'.toList.take st'.length = pickV us st' := by
  have henc : ∀ q, q < xs.length → us.getD q (.int .i64 0) = encQ us q := fun q hq => by
    unfold encQ
    rw [List.getD_eq_getElem?_getD, List.getD_eq_getElem?_getD, List.getElem?_eq_getElem (by omega : q < us.length)]
    rfl
  have hpick : ∀ l : List Nat, (∀ q ∈ l, q < xs.length) → pickV us l = l.map (encQ us) := fun l hl => List.map_congr_left (fun q hq => henc q (hl q hq))
  have hread : ∀ (w1 : World), W.grownBy w1 (some B) → ∀ q : Nat, ∃ A1 c1, encQ us q = .slice A1 (xs.getD q []).length c1 ∧ (xs.getD q []).length ≤ c1 ∧ (Kd.int .i64).C w1 A1 (xs.getD q []).length (xs.getD q []) := by
    intro w1 h1 q
    by_cases hq : q < xs.length
    · obtain ⟨A1, c1, k1, k2, k3⟩ := hrows q xs[q] (List.getElem?_eq_getElem hq)
      have e1 : xs.getD q [] = xs[q] := by simp [List.getD, List.getElem?_eq_getElem hq]
      refine ⟨A1, c1, ?_, by rw [e1]; exact k2, by rw [e1]; exact k3 w1 h1⟩
      unfold encQ
      rw [e1, List.getD_eq_getElem?_getD, k1]
      rfl
    · have e1 : xs.getD q [] = [] := by rw [List.getD_eq_getElem?_getD, List.getElem?_eq_none (by omega)]; rfl
      refine ⟨none, 0, ?_, by rw [e1]; exact Nat.le_refl _, by rw [e1]; exact ⟨rfl, by decide, fun h => absurd h (by decide)⟩⟩
      unfold encQ
      rw [e1, List.getD_eq_getElem?_getD, List.getElem?_eq_none (by omega)]
      rfl
  have h1c : ∀ q, (encQ us q).oneCell' = true := by
    intro q
    obtain ⟨A1, c1, k1, _⟩ := hread W ⟨rfl, rfl, rfl, Nat.le_refl _, fun _ _ _ => rfl⟩ q
    rw [k1]
    rfl
  have hl100 : ∀ q, (xs.getD q []).length ≤ 100 := by
    intro q
    by_cases hq : q < xs.length
    · rw [show xs.getD q [] = xs[q] by simp [List.getD, List.getElem?_eq_getElem hq]]
      exact h100 _ (List.getElem_mem _)
    · rw [show xs.getD q [] = [] by rw [List.getD_eq_getElem?_getD, List.getElem?_eq_none (by omega)]; rfl]
      exact Nat.zero_le _
  have hcmp : CmpReads Tryz.prog 81 #[] (encQ us) (cfQ xs) B 0 st.toArray.size W := by
    intro m os dk hs x y
    obtain ⟨A1, c1, k1, k2, k3⟩ := hread (sortWorld (encQ us) W B 0 m dk os) (grown_enc dk) x
    obtain ⟨A2, c2, g1, g2, g3⟩ := hread (sortWorld (encQ us) W B 0 m dk os) (grown_enc dk) y
    rw [k1, g1]
    refine (slices_Compare_int_int.calls _ A1 c1 (xs.getD x []) A2 c2 (xs.getD y []) _ _ k3 k2 g3 g2 (compare_val _ _ (hl100 x))).mono ?_
    rintro e w' ⟨rfl, n, rfl⟩
    exact ⟨rfl, n, rfl⟩
  have hH : Go.Sort.Holds (encQ us) W B 0 st.toArray := holds_enc hg (by rw [htk, hpick st hst])
  have hblk : B < W.heap.size := blk_lt hg
  have eg : ∀ args w, (callFunc 81 args).run Tryz.prog w = .ok (.enter 81 args) w := enters_ Tryz.func81 (by kernel_rfl) rfl
  have hcon := Any.slices_SortFunc sortF (encQ us) h1c (cfQ xs) (swoQ xs) 81 #[] B 0 cap st.toArray W eg hcmp.lays hH hblk (by simp; omega)
  change Calls Tryz.prog 80 _ _ _ at hcon
  have e0 : st.toArray.size = st.length := by simp
  rw [e0] at hcon
  refine hcon.mono ?_
  rintro e w' ⟨rfl, d', n, os, hp, hs, rfl⟩
  obtain ⟨p1, _, p3⟩ := hp
  rw [e0] at p1
  have hd : (d'.extract 0 st.length) = d' := by rw [← p1]; simp
  have hd0 : (st.toArray.extract 0 st.length) = st.toArray := by simp
  rw [hd, hd0] at p3
  have p4 : d'.toList.Perm st := by simpa using p3
  have hmem : ∀ q ∈ d'.toList, q < xs.length := fun q hq => hst q (p4.mem_iff.1 hq)
  have hdl : d'.toList.length = st.length := by rw [Array.length_toList]; exact p1
  refine ⟨rfl, d'.toList, p4, ?_, grown_enc d', _, heap_enc d' hg, size_enc cur d', ?_⟩
  · refine List.pairwise_iff_getElem.2 fun a b ha hb hab => ?_
    have := hs a b (Nat.zero_le _) hab (by rw [← hdl]; exact hb)
    unfold ltOf at this
    have := of_decide_eq_false this
    rw [getElem!_pos d' b (by rw [← Array.length_toList]; exact hb), getElem!_pos d' a (by rw [← Array.length_toList]; exact ha)] at this
    exact this
  · rw [hpick _ hmem]
    have := take_enc (enc := encQ us) cur d'.toList (by omega)
    rw [Array.toArray_toList] at this
    exact this
theorem raw_mk {w' : World} {base g cap : Nat} {c1 : Array Value} {l : List Value} (hb : base ≤ g) (hg : w'.heap[g]? = some (.cells c1 31 (0, 0))) (hs : c1.size = cap) (hcm : cap ≤ maxLen) (hle : l.length ≤ cap) (htk : c1.toList.take l.length = l) (h1 : ∀ u ∈ l, u.oneCell' = true) :
    Kd.R rawKd 31 w' base (fun _ => True) (.slice (some ⟨g, 0, none⟩) l.length cap) l := by
  refine ⟨fun _ _ => trivial, l, ⟨by rw [show rawKd.sz = 1 from rfl]; omega, .inr ⟨g, cap, c1, rfl, hb, hg, hle, hcm, by rw [show rawKd.sz = 1 from rfl]; omega, by rw [show rawKd.sz = 1 from rfl, Nat.mul_one]; exact htk⟩⟩, ⟨by rw [show rawKd.sz = 1 from rfl]; omega, fun j p hp => ⟨take_drop_one _ j hp, h1 p (List.mem_of_getElem? hp)⟩⟩⟩
/-- The places of the sets with a sum. -/
def idxSum (t : Int) (xs : List (List Int)) : List Nat := stayAt (fun x => !hasSum t x) xs xs.length
def pickX (xs : List (List Int)) (st : List Nat) : List (List Int) := st.map fun q => xs.getD q []
def ownIdx (b : Bool) (xs : List (List Int)) (t : Int) : List Nat := (stayAt (fun x => !ageB b x) (pickX xs (idxSum t xs)) (pickX xs (idxSum t xs)).length).map fun m => (idxSum t xs).getD m 0
def toldOne (b : Bool) (xs : List (List Int)) (t : Int) : List Nat := if (ownIdx b xs t).length = 1 then [(ownIdx b xs t).getD 0 0] else []
def toldIdx (b : Bool) (xs : List (List Int)) (os : List Int) : List Nat := (os.map (toldOne b xs)).flatten
theorem pickV_pick (us : List Value) (q st : List Nat) (h : ∀ m ∈ st, m < q.length) : pickV (pickV us q) st = pickV us (st.map fun m => q.getD m 0) := by
  unfold pickV
  rw [List.map_map]
  refine List.map_congr_left fun m hm => ?_
  have hml := h m hm
  simp [List.getD, List.getElem?_eq_getElem hml]
theorem idxSum_lt (t : Int) (xs : List (List Int)) : ∀ q ∈ idxSum t xs, q < xs.length := fun q h => stay_lt _ xs q h
theorem pickX_len (xs : List (List Int)) (st : List Nat) : (pickX xs st).length = st.length := by simp [pickX]
theorem ownIdx_lt (b : Bool) (xs : List (List Int)) (t : Int) : ∀ q ∈ ownIdx b xs t, q < xs.length := by
  intro q h
  unfold ownIdx at h
  obtain ⟨m, hm, rfl⟩ := List.mem_map.1 h
  have hml := stay_lt _ _ m hm
  rw [pickX_len] at hml
  refine idxSum_lt t xs _ ?_
  rw [show (idxSum t xs).getD m 0 = (idxSum t xs)[m] by simp [List.getD, List.getElem?_eq_getElem hml]]
  exact List.getElem_mem _
theorem toldOne_lt (b : Bool) (xs : List (List Int)) (t : Int) : ∀ q ∈ toldOne b xs t, q < xs.length := by
  intro q h
  unfold toldOne at h
  split at h
  · next hl =>
    obtain rfl := List.mem_singleton.1 h
    refine ownIdx_lt b xs t _ ?_
    rw [show (ownIdx b xs t).getD 0 0 = (ownIdx b xs t)[0] by simp [List.getD, List.getElem?_eq_getElem (by omega : 0 < (ownIdx b xs t).length)]]
    exact List.getElem_mem _
  · exact absurd h List.not_mem_nil
theorem toldIdx_lt (b : Bool) (xs : List (List Int)) (os : List Int) : ∀ q ∈ toldIdx b xs os, q < xs.length := by
  intro q h
  unfold toldIdx at h
  obtain ⟨l, hl, hq⟩ := List.mem_flatten.1 h
  obtain ⟨t, _, rfl⟩ := List.mem_map.1 hl
  exact toldOne_lt b xs t q hq
theorem toldOne_len (b : Bool) (xs : List (List Int)) (t : Int) : (toldOne b xs t).length ≤ 1 := by
  unfold toldOne
  split
  · exact Nat.le_refl _
  · exact Nat.zero_le _
theorem toldIdx_len (b : Bool) (xs : List (List Int)) : ∀ os : List Int, (toldIdx b xs os).length ≤ os.length
  | [] => Nat.le_refl _
  | t :: os => by
    have ih := toldIdx_len b xs os
    have h1 := toldOne_len b xs t
    show (toldOne b xs t ++ toldIdx b xs os).length ≤ os.length + 1
    rw [List.length_append]
    omega
theorem toldIdx_snoc (b : Bool) (xs : List (List Int)) (os : List Int) (t : Int) : toldIdx b xs (os ++ [t]) = toldIdx b xs os ++ toldOne b xs t := by
  unfold toldIdx
  rw [List.map_append, List.flatten_append]
  simp
theorem pickV_len (us : List Value) (st : List Nat) : (pickV us st).length = st.length := by simp [pickV]
/-- The rows of the picked headers. -/
theorem picked_rows {xs : List (List Int)} {us : List Value} {R : Value → List Int → Prop} (hrows : ∀ (j : Nat) (x : List Int), xs[j]? = some x → ∃ u, us[j]? = some u ∧ R u x) (st : List Nat) (hst : ∀ q ∈ st, q < xs.length) :
    ∀ (j : Nat) (x : List Int), (pickX xs st)[j]? = some x → ∃ u, (pickV us st)[j]? = some u ∧ R u x := by
  intro j x hx
  unfold pickX at hx
  rw [List.getElem?_map] at hx
  obtain ⟨q, hq, e⟩ := Option.map_eq_some_iff.1 hx
  have hqx := hst q (List.mem_of_getElem? hq)
  obtain ⟨u, hu, hR⟩ := hrows q xs[q] (List.getElem?_eq_getElem hqx)
  rw [show xs.getD q [] = xs[q] by simp [List.getD, List.getElem?_eq_getElem hqx]] at e
  refine ⟨u, ?_, by rw [← e]; exact hR⟩
  unfold pickV
  rw [List.getElem?_map, hq, Option.map_some, List.getD_eq_getElem?_getD, hu]
  rfl
theorem pickX_all {P : List Int → Prop} {xs : List (List Int)} (h : ∀ x ∈ xs, P x) (st : List Nat) (hst : ∀ q ∈ st, q < xs.length) : ∀ x ∈ pickX xs st, P x := by
  intro x hx
  unfold pickX at hx
  obtain ⟨q, hq, rfl⟩ := List.mem_map.1 hx
  have hqx := hst q hq
  rw [show xs.getD q [] = xs[q] by simp [List.getD, List.getElem?_eq_getElem hqx]]
  exact h _ (List.getElem_mem _)
theorem idxSum_len (t : Int) (xs : List (List Int)) : (idxSum t xs).length ≤ xs.length := stayAt_len _ _ _
/-- A header and the numbers that it leads to. -/
def Rd (W : World) (u : Value) (x : List Int) : Prop := ∃ A1 c1, u = .slice A1 x.length c1 ∧ x.length ≤ c1 ∧ (Kd.int .i64).C W A1 x.length x
theorem Rd.below {W W' : World} {u : Value} {x : List Int} (h : Rd W u x) (hb : Below W.heap.size W W') : Rd W' u x := by
  obtain ⟨A1, c1, h1, h2, h3⟩ := h
  exact ⟨A1, c1, h1, h2, Kd.C_below h3 hb⟩
theorem own_V (t : Int) (b : Bool) (htb : b = decide (t = 1)) (xs : List (List Int)) (us : List Value) (tt : Int) (W0 wr w' : World) (v' : Value) (r : Nat) (hr0 : W0.heap[r]? = some (.cells #[.func (.func (fnOf t)) #[] #[]] 37 (0, 0))) (hB : Below W0.heap.size W0 wr) (hBw : Below wr.heap.size wr w')
    (hrows : ∀ (j : Nat) (x : List Int), xs[j]? = some x → ∃ u, us[j]? = some u ∧ Rd W0 u x) (ha : ∀ x ∈ xs, Ages x ∧ x.length ≤ 4) (h1 : ∀ x ∈ xs, 1 ≤ x.length) (hn : xs.length ≤ 200000)
    (hR : Kd.R rawKd 31 w' wr.heap.size (fun _ => True) v' (pickV us (idxSum tt xs))) :
    Calls Tryz.prog 78 #[v', .func (.func 79) #[] #[.pointer (some ⟨r, 0, none⟩)]] w' fun e w2 => ∃ v2, e = .returned v2 ∧ Kd.R rawKd 31 w2 wr.heap.size (fun _ => True) v2 (pickV us (ownIdx b xs tt)) ∧ Below wr.heap.size wr w2 := by
  have hlt := idxSum_lt tt xs
  have hbs := Kd.R_base hR
  have hBB : Below W0.heap.size W0 w' := below_step hB hBw
  have hr : w'.heap[r]? = some (.cells #[.func (.func (fnOf t)) #[] #[]] 37 (0, 0)) := (hBB.block r (blk_lt hr0)).trans hr0
  refine (deleteFuncT_V (fun _ s => !ageB b s) t (fun s A c r W ha h4 hcc hC hr => told1_calls t b htb s A c r W h4.2 h4.1 hcc hC hr) r wr.heap.size (pickX xs (idxSum tt xs)) (pickV us (idxSum tt xs)) v' w' hr hR (by rw [pickV_len, pickX_len]) ?_ ?_ ?_).mono ?_
  · intro j x hx
    obtain ⟨u, hu, A1, c1, rfl, q2, q3⟩ := picked_rows hrows (idxSum tt xs) hlt j x hx
    exact ⟨A1, c1, hu, q2, fun w1 hg => Kd.C_below q3 (hBB.grown hg hBB.size (fun k hk => Nat.le_trans hB.size (hbs k hk)))⟩
  · intro x hx
    have h2 := pickX_all ha (idxSum tt xs) hlt x hx
    exact ⟨h2.1, pickX_all h1 (idxSum tt xs) hlt x hx, h2.2⟩
  · rw [pickX_len]
    exact Nat.le_trans (idxSum_len tt xs) hn
  · rintro e w2 ⟨v2, rfl, hR2, hg⟩
    rw [pickV_pick us (idxSum tt xs) _ (fun m hm => by have := stay_lt _ _ m hm; rw [pickX_len] at this; exact this)] at hR2
    exact ⟨v2, rfl, hR2, hBw.grown hg hBw.size (fun k hk => hbs k hk)⟩
set_option maxHeartbeats 16000000 in
theorem told_calls (t : Int) (b : Bool) (htb : b = decide (t = 1)) (k : Nat) (A : Option Addr) (c : Nat) (xs : List (List Int)) (us : List Value) (os : List Int) (W : World) (hC : Kd.C (Kd.slice 3 (Kd.int .i64)) W A xs.length xs) (hc : xs.length ≤ c) (hlu : us.length = xs.length) (hCr : Kd.C rawKd W A us.length us)
    (hrows : ∀ (j : Nat) (x : List Int), xs[j]? = some x → ∃ u, us[j]? = some u ∧ Rd W u x) (ha : ∀ x ∈ xs, Ages x ∧ x.length ≤ 4) (h1 : ∀ x ∈ xs, 1 ≤ x.length) (hn : xs.length ≤ 200000) (hos : impl_openSums.f k xs = some os) (hol : os.length ≤ 200000) :
    Calls Tryz.prog 43 #[.slice A xs.length c, .func (.func (fnOf t)) #[] #[]] W fun e w' => ∃ (v : Value) (st : List Nat), e = .returned v ∧ Kd.R rawKd 31 w' W.heap.size (fun _ => True) v (pickV us st) ∧ st.Perm (toldIdx b xs os) ∧ (st.Pairwise fun a b => ¬ cfQ xs b a < 0) ∧ Below W.heap.size W w' := by
  obtain ⟨W1, hW1⟩ : ∃ W1 : World, W1 = W.alloc (.cells #[.func (.func (fnOf t)) #[] #[]] 37) := ⟨_, rfl⟩
  have HW1 := Aside0.mk hW1
  have hWB : Below W.heap.size W W1 := by rw [hW1]; exact below_alloc (Below.refl _ _) _
  have HWB := Aside0.mk hWB
  have HP1 := Aside0.mk (show W1.heap[W.heap.size]? = some (.cells #[.func (.func (fnOf t)) #[] #[]] 37 (0, 0)) by rw [hW1]; exact heap_alloc_new W _)
  have hrows1 : ∀ (j : Nat) (x : List Int), xs[j]? = some x → ∃ u, us[j]? = some u ∧ Rd W1 u x := fun j x hx => by
    obtain ⟨u, hu, hR⟩ := hrows j x hx
    exact ⟨u, hu, hR.below hWB⟩
  have HC1 := Aside0.mk (Kd.C_below hC hWB)
  have HCR1 := Aside0.mk (Kd.C_below hCr hWB)
  have HOP := Aside0.mk (fun w (h : Kd.C (Kd.slice 3 (Kd.int .i64)) w A xs.length xs) => impl_openSums.calls k A c xs os w h hc hos)
  have HWS := Aside0.mk (fun (tt : Int) (w : World) (hB : Below W1.heap.size W1 w) => withSum_V tt A c xs us w hlu (Kd.C_below HCR1.out hB) (fun j x hx => by
    obtain ⟨u, hu, hR⟩ := hrows1 j x hx
    obtain ⟨A1, c1, rfl, q2, q3⟩ := hR.below hB
    exact ⟨A1, c1, hu, q2, q3⟩) hc ha hn)
  have HOV := Aside0.mk (fun (tt : Int) (wr w' : World) (v' : Value) hB hBw hR => own_V t b htb xs us tt W1 wr w' v' W.heap.size HP1.out hB hBw hrows1 ha h1 hn hR)
  have HSO := Aside0.mk (fun (st : List Nat) (hst : ∀ q ∈ st, q < xs.length) (B cap : Nat) (cur : Array Value) (w : World) (hB : Below W1.heap.size W1 w) (hBB : W1.heap.size ≤ B) hg hsz hs2 htk => sortRows xs us hlu st hst B cap cur w hg hsz hs2 htk (fun j x hx => by
    obtain ⟨u, hu, hR⟩ := hrows1 j x hx
    obtain ⟨A1, c1, rfl, q2, q3⟩ := hR
    exact ⟨A1, c1, hu, q2, fun w1 hgr => Kd.C_below q3 (hB.grown hgr hB.size (fun k hk => by cases hk; exact hBB))⟩) (fun x hx => Nat.le_trans (ha x hx).2 (by decide)))
  have HLT := Aside0.mk (toldIdx_lt b xs)
  have HUS := Aside0.mk (show ∀ st : List Nat, (∀ q ∈ st, q < xs.length) → ∀ u ∈ pickV us st, ∃ A1 n1 c1, u = .slice A1 n1 c1 from fun st hst u hu => by
    obtain ⟨j, hj, e⟩ := List.mem_iff_getElem.1 hu
    have hj2 : j < (pickX xs st).length := by rw [pickX_len]; rw [pickV_len] at hj; exact hj
    obtain ⟨u', hu', A1, c1, rfl, _⟩ := picked_rows hrows1 st hst j _ (List.getElem?_eq_getElem hj2)
    rw [List.getElem?_eq_getElem hj, e] at hu'
    exact ⟨_, _, _, Option.some.inj hu'⟩)
  have HOL := Aside0.mk (ownIdx_lt b xs)
  clear hC hCr hrows hrows1 ha h1 hn hos hW1 hWB hlu htb
  go_enter Tryz.func43, Tryz.ntmps43
  go_wp2_with (first | ((with_reducible refine gate_dst (N := 9) rfl ?_); refine Kd.R_lit rawKd _ 31 ?hg (N := 9) ?hd (xs := ([] : List Value)) (inner := []) (ok := fun _ => True) (okp := fun _ => True) ?hr ?hp (fun _ hk => hk) trivial (Below.refl _ _) (Nat.le_refl _) (by simp) ?_; (case hd => rfl); (case hg => rfl); (case hr => first | (go_simp; done) | (go_simp; rfl)); (case hp => exact (Reps.none _ _)); intro v1 w1 ho4 hb hg_ hnew_; have HO := Aside0.mk (show Kd.R rawKd 31 w1 W1.heap.size (fun _ => True) v1 [] by rw [HW1.out]; exact ho4); have HB1 := Aside0.mk (show Below W1.heap.size W1 w1 by rw [HW1.out]; exact hb); have HNW := Aside0.mk hnew_; clear ho4 hb hg_ hnew_) | (go_at_call 57; (with_reducible refine (HOP.out _ (Kd.C_below HC1.out HB1.out)).mono ?_); rintro e w2 ⟨v2, rfl, hR2, hb2⟩; obtain ⟨A2, c2, rfl⟩ := Kd.R_slice hR2; have HC2 := Aside0.mk (Kd.R_lower hR2 HB1.out.size); have HB2 := Aside0.mk (show Below W1.heap.size W1 w2 from below_step HB1.out hb2); have HO2 := Aside0.mk (Kd.R_below HO.out hb2); clear hR2 hb2))
  go_loopw [5, 13] (fun v5 v13 wr => ∃ i : Nat, i ≤ os.length ∧ v13 = .int .i64 (i : Int) ∧ (∃ B, v5.ownBlock = some B) ∧ Aside0 (Kd.R rawKd 31 wr W1.heap.size (fun _ => True) v5 (pickV us (toldIdx b xs (os.take i)))) ∧ Aside0 ((Kd.int .i64).R 3 wr W1.heap.size (fun _ => True) (.slice A2 os.length c2) os) ∧ Aside0 (Below W1.heap.size W1 wr)) (fun _ v13 _ => os.length - (intOf v13).toNat)
  case atStart =>
    obtain ⟨B, hB, _⟩ := HNW.out
    exact ⟨0, Nat.zero_le _, rfl, ⟨B, hB⟩, HO2, HC2, HB2⟩
  case round =>
    obtain ⟨i, hi, rfl, hNB, HO3, HRO, HB3⟩ := hrel
    by_cases hlt : i < os.length
    · have hlt1 : decide ((i : Int) < (os.length : Int)) = true := decide_eq_true (by omega)
      obtain ⟨ad, rfl, hcell⟩ := Kd.at_int (Kd.R_reads' HRO.out).2.2 (i : Int) (Int.natCast_nonneg _) (Int.ofNat_lt.2 hlt)
      rw [Int.toNat_natCast] at hcell
      have hri : rd os (i : Int) = os[i] := by simp [rd, List.getD, List.getElem?_eq_getElem hlt]
      rw [hri] at hcell
      obtain ⟨tt, htt⟩ : ∃ tt, tt = os[i] := ⟨_, rfl⟩
      have hts : os.take (i + 1) = os.take i ++ [tt] := by rw [List.take_succ_eq_append_getElem hlt, htt]
      have hti : toldIdx b xs (os.take (i + 1)) = toldIdx b xs (os.take i) ++ toldOne b xs tt := by rw [hts, toldIdx_snoc]
      rw [← htt] at hcell
      have hln := toldIdx_len b xs (os.take i)
      rw [List.length_take] at hln
      obtain ⟨st, hst⟩ : ∃ st, st = toldIdx b xs (os.take i) := ⟨_, rfl⟩
      rw [← hst] at hti HO3 hln
      have hpl := pickV_len us st
      obtain ⟨l3, hl3⟩ : ∃ l3, l3 = pickV us st := ⟨_, rfl⟩
      have HL3 := Aside0.mk hl3
      rw [← hl3] at HO3 hpl
      obtain ⟨Ao, co, rfl⟩ := Kd.R_slice HO3.out
      have HOT := Aside0.mk (fun w' v' hBw hR => HOV.out tt wr w' v' HB3.out hBw hR)
      have HWT := Aside0.mk (show Calls Tryz.prog 61 #[.slice A xs.length c, .int .i64 tt] wr fun e w' => ∃ v', e = .returned v' ∧ Kd.R rawKd 31 w' wr.heap.size (fun _ => True) v' (pickV us (idxSum tt xs)) ∧ Below wr.heap.size wr w' from HWS.out tt wr HB3.out)
      have HPL := Aside0.mk hpl
      have HNB := Aside0.mk hNB
      clear hri hts htt hst hl3 hNB hpl
      by_cases h5 : (ownIdx b xs tt).length = 1
      · obtain ⟨q0, hq0⟩ : ∃ q0, q0 = (ownIdx b xs tt).getD 0 0 := ⟨_, rfl⟩
        have ho1 : ownIdx b xs tt = [q0] := by
          obtain ⟨y, hy⟩ := List.length_eq_one_iff.1 h5
          rw [hq0, hy]
          rfl
        have hto : toldOne b xs tt = [q0] := by unfold toldOne; rw [if_pos h5, ← hq0]
        rw [hto] at hti
        obtain ⟨u, hu⟩ : ∃ u, u = us.getD q0 (.int .i64 0) := ⟨_, rfl⟩
        have hpk : pickV us (ownIdx b xs tt) = [u] := by rw [ho1, hu]; rfl
        obtain ⟨Au, nu, cu, rfl⟩ := HUS.out [q0] (fun q hq => by rw [← ho1] at hq; exact HOL.out tt q hq) u (by rw [hu]; exact List.mem_cons_self ..)
        have HNX := Aside0.mk (show pickV us (toldIdx b xs (os.take (i + 1))) = l3 ++ [.slice Au nu cu] by rw [hti, HL3.out, hu]; unfold pickV; rw [List.map_append]; rfl)
        rw [hpk] at HOT
        clear hq0 ho1 hto hti hpk hu h5
        go_wp2_with (first | (go_at_call 61; (with_reducible refine HWT.out.mono ?_); rintro e w4 ⟨v4, rfl, hR4, hb4⟩; have HR4 := Aside0.mk hR4; have HB4 := Aside0.mk hb4; clear hR4 hb4) | (go_at_call 78; go_loud ((with_reducible refine (HOT.out w4 v4 HB4.out HR4.out).mono ?_); rintro e w5 ⟨v5, rfl, hR5, hb5⟩; obtain ⟨A5, c5, rfl, hc5, hC5⟩ := Kd.R_reads hR5; obtain ⟨ad5, rfl, hce⟩ : ∃ ad5, A5 = some ad5 ∧ w5.cell? (ad5.add 0) = some (Value.slice Au nu cu) := (by obtain ⟨ad5, e5, hh⟩ := hC5.2.2 (by simp); obtain ⟨cs, g1, ⟨rfl, g2⟩, g3⟩ := hh 0 (Value.slice Au nu cu) rfl; exact ⟨ad5, e5, g3 0 (Value.slice Au nu cu) rfl⟩); have hce2 : w5.cell? ad5 = some (Value.slice Au nu cu) := hce; have HB5 := Aside0.mk hb5; clear hR5 hb5 hC5)) | ((with_reducible refine gate_builtin (b := .append) (xs := #[.tmp 25, .tmp 29]) rfl ?_); at_builtin; go_loud (refine Kd.R_append rawKd (w0 := W1) W1.heap.size rfl (.tmp 25) (.tmp 29) 26 31 (.slice none 0 0) 24 rfl Tryz.underlying26 infoRows rfl (by decide) (by omega) (.slice Ao l3.length co) l3 (.slice Au nu cu) [.slice Au nu cu] (fun _ => True) (fun _ => False) rfl rfl ?aP (fun _ hk => hk.elim) ?aF ?aO ?aB ?aS ?aL ?_; (case aP => exact ⟨rfl, rfl⟩); (case aB => exact below_step HB3.out HB5.out); (case aF => exact fun _ _ => trivial); (case aO => exact Kd.R_below HO3.out HB5.out); (case aS => exact (below_step HB3.out HB5.out).size); (case aL => have := HPL.out; omega); intro v6 w6 ho hb hg hat; have HO6 := Aside0.mk ho; have HB6 := Aside0.mk hb; have HG6 := Aside0.mk hg; have HAT6 := Aside0.mk hat; clear ho hb hg hat)))
        go_roundw
        case rel =>
          have ho5 := Kd.R_below HO3.out HB5.out
          obtain ⟨_, inner, how, _⟩ := ho5
          rcases how.2 with ⟨e, _⟩ | ⟨g, cap', cur', e, hb', hg', _⟩
          · obtain ⟨B, hB⟩ := HNB.out
            rw [e] at hB
            simp [Value.ownBlock] at hB
          · have hg6 := HG6.out
            have hat6 := HAT6.out
            rw [e] at hg6 hat6
            refine ⟨i + 1, by omega, by go_num, ?_, ⟨by rw [HNX.out]; exact HO6.out⟩, ⟨row_grown (Kd.R_below HRO.out HB5.out) hg' hg6⟩, HB6⟩
            rcases hat6 with h6 | ⟨B, h6, _⟩
            · exact ⟨g, h6⟩
            · exact ⟨B, h6⟩
        case measure => simp [intOf]; omega
      · have hto : toldOne b xs tt = [] := by unfold toldOne; rw [if_neg h5]
        rw [hto, List.append_nil] at hti
        obtain ⟨l5, hl5⟩ : ∃ l5, l5 = pickV us (ownIdx b xs tt) := ⟨_, rfl⟩
        have h55 : ¬ l5.length = 1 := by rw [hl5, pickV_len]; exact h5
        rw [← hl5] at HOT
        have hq5 : ((l5.length : Int) == 1) = false := by simp; omega
        have HNX := Aside0.mk (show pickV us (toldIdx b xs (os.take (i + 1))) = l3 by rw [hti, HL3.out])
        clear hto hti h5 hl5 h55
        go_wp2_with (first | (go_at_call 61; (with_reducible refine HWT.out.mono ?_); rintro e w4 ⟨v4, rfl, hR4, hb4⟩; have HR4 := Aside0.mk hR4; have HB4 := Aside0.mk hb4; clear hR4 hb4) | (go_at_call 78; (with_reducible refine (HOT.out w4 v4 HB4.out HR4.out).mono ?_); rintro e w5 ⟨v5, rfl, hR5, hb5⟩; obtain ⟨A5, c5, rfl⟩ := Kd.R_slice hR5; have HB5 := Aside0.mk hb5; clear hR5 hb5))
        go_roundw
        case rel => exact ⟨i + 1, by omega, by go_num, HNB.out, ⟨by rw [HNX.out]; exact Kd.R_below HO3.out HB5.out⟩, ⟨Kd.R_below HRO.out HB5.out⟩, ⟨below_step HB3.out HB5.out⟩⟩
        case measure => simp [intOf]; omega
    · obtain rfl : i = os.length := by omega
      rw [List.take_length] at HO3
      have hlt1 : decide ((os.length : Int) < (os.length : Int)) = false := decide_eq_false (by omega)
      have hln := toldIdx_len b xs os
      obtain ⟨h0, inner, ho, hreps⟩ := HO3.out
      obtain rfl := reps_raw hreps
      rcases ho.2 with ⟨rfl, e⟩ | ⟨g, cap, cur, rfl, hb, hg, hnc, hcm, hsz, htk⟩
      · obtain ⟨B, hB⟩ := hNB
        simp [Value.ownBlock] at hB
      · rw [show rawKd.sz = 1 from rfl, Nat.mul_one] at hsz htk
        rw [pickV_len] at htk hnc ⊢
        have HSF := Aside0.mk (HSO.out (toldIdx b xs os) (HLT.out os) g cap cur wr HB3.out hb hg (by omega) (by omega) htk)
        have HGB := Aside0.mk hb
        have HCM := Aside0.mk hcm
        have HSZ := Aside0.mk hsz
        have HNC := Aside0.mk hnc
        have HL := Aside0.mk (HLT.out os)
        obtain ⟨n, hn⟩ : ∃ n, n = (toldIdx b xs os).length := ⟨_, rfl⟩
        rw [← hn] at HSF ⊢
        have HN := Aside0.mk hn
        clear h0 ho hreps hg htk hb hcm hsz hnc hn hln hNB
        go_wp2_with (go_at_call 80; (with_reducible refine HSF.out.mono ?_); rintro e w7 ⟨rfl, st', hperm, hpw, hgr, c', hc', hcs', htk'⟩; have HPM := Aside0.mk hperm; have HPW := Aside0.mk hpw; have HGR := Aside0.mk hgr; have HC7 := Aside0.mk hc'; have HCS := Aside0.mk hcs'; have HTK := Aside0.mk htk'; clear hperm hpw hgr hc' hcs' htk')
        go_ret
        have hl7 : st'.length = n := by rw [HPM.out.length_eq, HN.out]
        have hlp : (pickV us st').length = n := by rw [pickV_len, hl7]
        have hmk := raw_mk (w' := w7) (base := W.heap.size) (g := g) (cap := cap) (c1 := c') (l := pickV us st') (Nat.le_trans HWB.out.size HGB.out) HC7.out (by rw [HCS.out]; exact HSZ.out) HCM.out (by have := HNC.out; have := HN.out; omega) (by rw [hlp, ← hl7]; exact HTK.out) (fun u hu => by
          obtain ⟨A1, n1, c1, rfl⟩ := HUS.out st' (fun q hq => HL.out q (HPM.out.mem_iff.1 hq)) u hu
          rfl)
        rw [hlp] at hmk
        exact ⟨_, rfl, st', hmk, HPM.out, HPW.out, below_then HWB.out HWB.out.size (HB3.out.grown HGR.out HB3.out.size (fun k hk => by cases hk; exact HGB.out))⟩
/-- Picked rows of a list of the call's own are such a list again. -/
theorem Sep.pick {w w1 : World} {base b1 : Nat} {v v1 : Value} {us : List Value} {xs : List (List Int)} {st : List Nat} (hS : Sep w base v us xs) (hb : Below w.heap.size w w1) (hle : base ≤ b1) (hR : Kd.R rawKd 31 w1 b1 (fun _ => True) v1 (pickV us st)) (hst : ∀ q ∈ st, q < xs.length) (hnd : st.Nodup) : Sep w1 base v1 (pickV us st) (pickX xs st) := by
  have hat : ∀ (j : Nat) (u : Value), (pickV us st)[j]? = some u → ∃ q, st[j]? = some q ∧ q < xs.length ∧ us[q]? = some u := by
    intro j u hu
    unfold pickV at hu
    rw [List.getElem?_map] at hu
    obtain ⟨q, hq, e⟩ := Option.map_eq_some_iff.1 hu
    have hqx := hst q (List.mem_of_getElem? hq)
    have hqu : q < us.length := by rw [hS.len]; exact hqx
    refine ⟨q, hq, hqx, ?_⟩
    rw [← e, List.getElem?_eq_getElem hqu]
    simp [List.getD, List.getElem?_eq_getElem hqu]
  have hatx : ∀ (j : Nat) (x : List Int), (pickX xs st)[j]? = some x → ∀ q, st[j]? = some q → xs[q]? = some x := by
    intro j x hx q hq
    unfold pickX at hx
    rw [List.getElem?_map, hq, Option.map_some] at hx
    have hqx := hst q (List.mem_of_getElem? hq)
    rw [← Option.some.inj hx, List.getElem?_eq_getElem hqx]
    simp [List.getD, List.getElem?_eq_getElem hqx]
  obtain ⟨_, inner, ho, hreps⟩ := hR
  obtain rfl := reps_raw hreps
  refine ⟨?_, by rw [pickV_len, pickX_len], fun j u x hu hx => ?_, fun i j u u' k hi hj hk hk' => ?_⟩
  · refine ⟨by rw [Nat.mul_one], ?_⟩
    rcases ho.2 with h2 | ⟨g, cap, cur, e, h3, h4, h5, h6, h7, h8⟩
    · exact .inl h2
    · exact .inr ⟨g, cap, cur, e, Nat.le_trans hle h3, h4, h5, h6, h7, h8⟩
  · obtain ⟨q, hq, hqx, huq⟩ := hat j u hu
    exact Kd.R_below (hS.inn q u x huq (hatx j x hx q hq)) hb
  · obtain ⟨q, hq, _, huq⟩ := hat i u hi
    obtain ⟨q', hq', _, huq'⟩ := hat j u' hj
    have e := hS.dis q q' u u' k huq huq' hk hk'
    subst e
    obtain ⟨hi', ei⟩ := List.getElem?_eq_some_iff.1 hq
    obtain ⟨hj', ej⟩ := List.getElem?_eq_some_iff.1 hq'
    exact (List.getElem_inj hnd).1 (ei.trans ej.symm)
/-- What is told of a list: the open sums, and the sets in order. -/
def ToldOk (b : Bool) (xs r : List (List Int)) : Prop := ∃ (k : Nat) (os : List Int), impl_openSums.f k xs = some os ∧ os.length ≤ 200000 ∧ (toldIdx b xs os).Nodup ∧ ∀ st : List Nat, st.Perm (toldIdx b xs os) → (st.Pairwise fun a b => ¬ cfQ xs b a < 0) → pickX xs st = r
theorem told_S (t : Int) (b : Bool) (htb : b = decide (t = 1)) (xs r : List (List Int)) (hT : ToldOk b xs r) (base : Nat) (v : Value) (W : World) (hS : Kd.S (Kd.slice 3 (Kd.int .i64)) 31 W base (fun _ => True) v xs) (hle : base ≤ W.heap.size) (ha : ∀ x ∈ xs, Ages x ∧ x.length ≤ 4) (h1 : ∀ x ∈ xs, 1 ≤ x.length) (hn : xs.length ≤ 200000) :
    Calls Tryz.prog 43 #[v, .func (.func (fnOf t)) #[] #[]] W fun e w' => ∃ v2 us2, e = .returned v2 ∧ Sep w' base v2 us2 r ∧ Below W.heap.size W w' := by
  obtain ⟨us, hs⟩ := Sep.of_S hS
  obtain ⟨A, c, rfl, hc, hC⟩ := hs.reads
  obtain ⟨A', c', e', _, hCr⟩ := hs.cells
  obtain ⟨k, os, hos, hol, hnd, huniq⟩ := hT
  have hA : A' = A := by injection e' with q1 _ _; exact q1.symm
  subst hA
  have hrows : ∀ (j : Nat) (x : List Int), xs[j]? = some x → ∃ u, us[j]? = some u ∧ Rd W u x := by
    intro j x hx
    have hj : j < us.length := by rw [hs.len]; exact (List.getElem?_eq_some_iff.1 hx).1
    refine ⟨us[j], List.getElem?_eq_getElem hj, ?_⟩
    have hR := hs.inn j us[j] x (List.getElem?_eq_getElem hj) hx
    obtain ⟨A1, c1, e1⟩ := Kd.R_slice hR
    rw [e1] at hR ⊢
    obtain ⟨_, hcc, hC1⟩ := Kd.R_reads' hR
    exact ⟨A1, c1, rfl, hcc, hC1⟩
  refine (told_calls t b htb k A' c xs us os W hC hc hs.len hCr hrows ha h1 hn hos hol).mono ?_
  rintro e w' ⟨v2, st, rfl, hR, hp, hpw, hb⟩
  have hsep := hs.pick hb hle hR (fun q hq => toldIdx_lt b xs os q (hp.mem_iff.1 hq)) (hp.nodup_iff.2 hnd)
  rw [huniq st hp hpw] at hsep
  exact ⟨v2, _, rfl, hsep, hb⟩
/-- What is asked of the answer. -/
def ToldF (b : Bool) (c p : Int) (r1 : List (List Int)) (r2 : Bool) : Prop := if 1 ≤ c ∧ c ≤ 4 ∧ 1 ≤ p ∧ p ≤ 160000 then r2 = true ∧ ToldOk b ((allSets c.toNat []).filter (hasProd p)) r1 else r1 = [] ∧ r2 = false

end Go.Proofs.YtlbnhjeblknepaaGreat.E
