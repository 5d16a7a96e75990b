-- WRITTEN by xprint.py, a program of this session that drives the kit's printer: out of the translation. Lean checks it.
import Derived.Test.YtofkafbcbghkeaaE0
import Derived.Test.YtofkafbcbghkeaaE10
import Derived.Test.YtofkafbcbghkeaaE11
import Derived.Test.YtofkafbcbghkeaaWLast
import Derived.Test.YtofkafbcbghkeaaWWords
namespace Go.Proofs.Ytofkafbcbghkeaa.E
open Go.RowKit Go.Proofs.YtofkafbcbghkeaaW.PrintWords Go.Proofs.YtofkafbcbghkeaaW.PrintLast
set_option linter.unusedVariables false
set_option linter.unusedSimpArgs false

-- OURS, BY HAND
/-! ### impl_behind_1: function 80 -/
-- func impl.behind$1
-- ext raw=1
-- needs slices.DeleteFunc[[][]int,[]int]
-- import Derived.Lib.SliceRun
-- import Derived.WalkSpells
/-- What is asked of the function that tells which sets go. -/
def DelAsks1 (P : World → Prop) (k1 k2 k3 : Value) (D : List Int → Bool) : Prop := ∀ (s : List Int) (A : Option Addr) (c : Nat) (W : World), Ages s → s.length ≤ 4 → s.length ≤ c → (Kd.int .i64).C W A s.length s → P W →
  Calls Try.prog 80 #[.slice A s.length c, k1, k2, k3] W fun e w' => e = .returned (.bool (D s)) ∧ Drawn0 W w'
set_option maxHeartbeats 800000 in
set_option maxRecDepth 100000 in
theorem indexFunc_calls1 (P : World → Prop) (k1 k2 k3 : Value) (D : List Int → Bool) (hD : DelAsks1 P k1 k2 k3 D) (g cap : Nat) (xs : List (List Int)) (cur : Array Value) (W : World) (hP : ∀ w1, W.grownBy w1 (some g) → P w1)
    (hg : W.heap[g]? = some (.cells cur 45 (0, 0))) (hh : Heads W cur xs) (hn : xs.length ≤ 200000) (hc : xs.length ≤ cap) :
    Calls Try.prog 82 #[.slice (some ⟨g, 0, none⟩) xs.length cap, .func (.func 80) #[] #[k1, k2, k3]] W fun e w' => e = .returned (.int .i64 (firstDel D xs 0)) ∧ Drawn0 W w' := by
  obtain ⟨ad, had⟩ : ∃ ad : Addr, ad = ⟨g, 0, none⟩ := ⟨_, rfl⟩
  rw [← had]
  have HAD := Aside0.mk had
  have HG := Aside0.mk hg
  have HH := Aside0.mk hh
  have HR := Aside0.mk hP
  clear hg hh had hP
  go_enter Try.func82, Try.ntmps82
  go_wp2
  go_loopw [8] (fun v8 wr => ∃ i : Nat, i ≤ xs.length ∧ v8 = .int .i64 (i : Int) ∧ Aside0 (firstDel D xs 0 = firstDel D (xs.drop i) i) ∧ Aside0 (∃ m, wr = W.drewN m)) (fun v8 _ => xs.length - (intOf v8).toNat)
  case atStart => exact ⟨0, Nat.zero_le _, rfl, ⟨rfl⟩, ⟨0, rfl⟩⟩
  case round =>
    obtain ⟨i, hi, rfl, HF, HM⟩ := hrel
    obtain ⟨m0, hm0⟩ := HM.out
    clear HM
    subst hm0
    by_cases hlt : i < xs.length
    · have hlt1 : decide ((i : Int) < (xs.length : Int)) = true := decide_eq_true (by omega)
      obtain ⟨ha, h4, A, c, hcur, hxc, hC⟩ := HH.out i xs[i] (List.getElem?_eq_getElem hlt)
      have hx0 : (W.drewN m0).cell? (ad.add i) = some (.slice A xs[i].length c) := by
        rw [HAD.out, add_at]
        exact (blk_cell (blk_drewN HG.out m0) i).trans hcur
      have HC := Aside0.mk (hD xs[i] A c (W.drewN m0) ha h4 hxc (Kd.C_drewN hC m0) (HR.out _ (grown_drewN (grown_refl W g) m0)))
      have hdr : firstDel D (xs.drop i) i = if D xs[i] = true then (i : Int) else firstDel D (xs.drop (i + 1)) (i + 1) := by rw [List.drop_eq_getElem_cons hlt]; rfl
      have HDR := Aside0.mk hdr
      clear ha h4 hcur hC hdr
      cases hd : D xs[i] with
      | true =>
        rw [hd] at HC HDR
        clear hd
        go_wp2_with (go_at_call 80; (with_reducible refine HC.out.mono ?_); rintro e w' ⟨rfl, ⟨nd, rfl⟩⟩)
        go_ret
        refine ⟨?_, ⟨_, rfl⟩⟩
        rw [HF.out, HDR.out]
        rfl
      | false =>
        rw [hd] at HC HDR
        clear hd
        go_wp2_with (go_at_call 80; (with_reducible refine HC.out.mono ?_); rintro e w' ⟨rfl, ⟨nd, rfl⟩⟩)
        go_roundw
        case rel => exact ⟨i + 1, by omega, by go_num, ⟨by rw [HF.out, HDR.out]; rfl⟩, ⟨_, rfl⟩⟩
        case measure => simp [intOf]; omega
    · obtain rfl : i = xs.length := by omega
      go_wp2
      go_ret
      refine ⟨?_, ⟨_, rfl⟩⟩
      rw [HF.out, List.drop_of_length_le (Nat.le_refl _)]
      rfl
set_option maxHeartbeats 1600000 in
set_option maxRecDepth 100000 in
theorem deleteFunc_calls1 (P : World → Prop) (k1 k2 k3 : Value) (D : List Int → Bool) (hD : DelAsks1 P k1 k2 k3 D) (g cap : Nat) (xs : List (List Int)) (cur : Array Value) (W : World) (hP : ∀ w1, W.grownBy w1 (some g) → P w1)
    (hg : W.heap[g]? = some (.cells cur 45 (0, 0))) (hh : ∀ w1, W.grownBy w1 (some g) → Heads w1 cur xs) (hn : xs.length ≤ 200000) (hc : xs.length ≤ cap) (hcs : cur.size = cap) (hcm : cap ≤ maxLen) :
    Calls Try.prog 78 #[.slice (some ⟨g, 0, none⟩) xs.length cap, .func (.func 80) #[] #[k1, k2, k3]] W fun e w' =>
      e = .returned (.slice (some ⟨g, 0, none⟩) (stayAt D xs xs.length).length cap) ∧ W.grownBy w' (some g) ∧ ∃ c1, w'.heap[g]? = some (.cells c1 45 (0, 0)) ∧ c1.size = cap ∧ ∀ m, m < (stayAt D xs xs.length).length → ∃ q, (stayAt D xs xs.length)[m]? = some q ∧ c1[m]? = cur[q]? := by
  have HI := Aside0.mk (indexFunc_calls1 P k1 k2 k3 D hD g cap xs cur W hP hg (hh W (grown_refl W g)) hn hc)
  have HG := Aside0.mk hg
  have HH := Aside0.mk hh
  have HR := Aside0.mk hP
  have HCM := Aside0.mk hcm
  clear hg hh hP hcm
  obtain ⟨ad, had⟩ : ∃ ad : Addr, ad = ⟨g, 0, none⟩ := ⟨_, rfl⟩
  rw [← had] at HI ⊢
  have HAD := Aside0.mk had
  clear had
  rcases firstDel_spec D xs 0 with ⟨e1, hall⟩ | ⟨k, hk, e1, hdk, hall⟩
  · rw [e1] at HI
    have HALL := Aside0.mk hall
    clear hall e1
    go_enter Try.func78, Try.ntmps78
    go_wp2_with (go_at_call 82; (with_reducible refine HI.out.mono ?_); rintro e w' ⟨rfl, ⟨nd, rfl⟩⟩)
    go_ret
    have hM := moved_start D xs cur xs.length HALL.out
    rw [stayAt_all D xs _ HALL.out, List.length_range]
    refine ⟨rfl, grown_drewN (grown_refl W g) nd, cur, HG.out, hcs, fun m hm => ⟨m, by first | simp [hm] | (rw [List.getElem?_range hm]), rfl⟩⟩
  · rw [e1, Nat.zero_add] at HI
    have HM0 := Aside0.mk ((moved_start D xs cur k hall).skip hdk)
    have hk1 : ((k : Int) == -1) = false := by first | (simp; done) | (simp; omega)
    clear hall e1
    go_enter Try.func78, Try.ntmps78
    go_wp2_with (go_at_call 82; (with_reducible refine HI.out.mono ?_); rintro e w' ⟨rfl, ⟨nd, rfl⟩⟩)
    go_loopw [5, 6, 7] (fun v5 v6 v7 wr => ∃ (i j : Nat) (c1 : Array Value), i < j ∧ j ≤ xs.length ∧ v5 = .int .i64 (i : Int) ∧ v6 = .int .i64 (j : Int) ∧ Aside0 (Moved D xs cur c1 i j) ∧ Aside0 (wr.heap[g]? = some (.cells c1 45 (0, 0))) ∧ Aside0 (W.grownBy wr (some g))) (fun _ v6 _ _ => xs.length - (intOf v6).toNat)
    case atStart => exact ⟨k, k + 1, cur, by omega, by omega, rfl, by go_num, HM0, ⟨blk_drewN HG.out nd⟩, ⟨grown_drewN (grown_refl W g) nd⟩⟩
    case round =>
      obtain ⟨i, j, c1, hij, hj, rfl, rfl, HMV, HGR, HK⟩ := hrel
      have HS := HMV.out.size
      by_cases hlt : j < xs.length
      · obtain ⟨ha, h4, A, c, hcur, hxc, hC⟩ := HH.out wr HK.out j xs[j] (List.getElem?_eq_getElem hlt)
        have hlt1 : decide ((j : Int) < (xs.length : Int)) = true := decide_eq_true (by omega)
        have hgd : xs.getD j [] = xs[j] := by simp [List.getD, List.getElem?_eq_getElem hlt]
        have hrw : P wr := HR.out wr HK.out
        have hx0 : wr.cell? (ad.add j) = some (.slice A xs[j].length c) := by
          rw [HAD.out, add_at]
          exact ((blk_cell HGR.out j).trans (HMV.out.rest j (Nat.le_refl _))).trans hcur
        have HC := Aside0.mk (hD xs[j] A c wr ha h4 hxc hC hrw)
        have HCU := Aside0.mk hcur
        have HGD := Aside0.mk hgd
        obtain ⟨ci, hci⟩ : ∃ ci, c1[i]? = some ci := ⟨c1[i]'(by omega), Array.getElem?_eq_getElem _⟩
        have hx1 : ∀ m, (wr.drewN m).cell? (ad.add i) = some ci := fun m => by
          rw [HAD.out, add_at]
          exact (blk_cell (blk_drewN HGR.out m) i).trans hci
        have hx2 : ∀ m, (wr.drewN m).frozen? (ad.add i) = false := fun m => by
          rw [HAD.out, add_at]
          exact blk_frozen (blk_drewN HGR.out m) i
        have p1 : ((i : Int) < (xs.length : Int)) = True := eq_true (by omega)
        clear ha h4 hcur hC hrw hgd hci HS
        cases hd : D xs[j] with
        | true =>
          rw [hd] at HC
          have HDD := Aside0.mk hd
          clear hd
          go_wp2_with (go_at_call 80; (with_reducible refine HC.out.mono ?_); rintro e w' ⟨rfl, ⟨nd, rfl⟩⟩)
          go_roundw
          case rel => exact ⟨i, j + 1, c1, by omega, by omega, rfl, by go_num, ⟨HMV.out.skip (by rw [HGD.out]; exact HDD.out)⟩, ⟨blk_drewN HGR.out _⟩, ⟨grown_drewN HK.out _⟩⟩
          case measure => simp [intOf]; omega
        | false =>
          rw [hd] at HC
          have HDD := Aside0.mk hd
          clear hd
          go_wp2_with (go_at_call 80; (with_reducible refine HC.out.mono ?_); rintro e w' ⟨rfl, ⟨nd, rfl⟩⟩)
          go_roundw
          case rel => exact ⟨i + 1, j + 1, _, by omega, by omega, by go_num, by go_num, ⟨HMV.out.keep (by rw [HGD.out]; exact HDD.out) HCU.out⟩, ⟨by rw [HAD.out, add_at]; exact blk_set (blk_drewN HGR.out _) _ _⟩, ⟨by rw [HAD.out, add_at]; exact grown_set (grown_drewN HK.out _) _ _⟩⟩
          case measure => simp [intOf]; omega
      · obtain rfl : j = xs.length := by omega
        have hlt1 : decide ((xs.length : Int) < (xs.length : Int)) = false := decide_eq_false (by omega)
        have hne : (cap = i) = False := eq_false (by omega)
        have hclr : ∀ ty, (Builtin.clear_ #[23] ty #[.slice (some (ad.add i)) (xs.length - i) (cap - i)]).run Try.prog wr = .ok (.tuple #[]) (wr.setCells g i (List.replicate (xs.length - i) (.slice none 0 0))) := fun ty => by
          rw [HAD.out, add_at]
          exact Lib.run_clear_slice wr _ _ ty _ Try.underlying23 zero45 rfl rfl g i _ _ (by omega) (fun m hm => by rw [blk_cell HGR.out, Array.getElem?_eq_getElem (by omega)]; rfl) (fun m hm => blk_frozen HGR.out _)
        have HX := Aside0.mk (setCells_keeps (w := W) (g := g) (List.replicate (xs.length - i) (.slice none 0 0)) i wr c1 HK.out HGR.out)
        have p1 : ((i : Int) ≤ (xs.length : Int)) = True := eq_true (by omega)
        clear HS
        go_wp2
        go_ret
        obtain ⟨h1, c2, h2, h3, h4⟩ := HX.out
        have hM := HMV.out
        have hl := hM.len
        refine ⟨by rw [← hl]; rfl, h1, c2, h2, by rw [h3, hM.size, hcs], fun m hm => ?_⟩
        obtain ⟨q, q1, q2⟩ := hM.head m (by omega)
        exact ⟨q, q1, (h4 m (by omega)).trans q2⟩
set_option maxHeartbeats 800000 in
set_option maxRecDepth 100000 in
theorem indexFunc_nil1 (k1 k2 k3 : Value) (W : World) : Calls Try.prog 82 #[.slice none 0 0, .func (.func 80) #[] #[k1, k2, k3]] W fun e w' => e = .returned (.int .i64 (-1)) ∧ w' = W := by
  go_enter Try.func82, Try.ntmps82
  go_wp2
  go_loopw [8] (fun v8 wr => v8 = .int .i64 0 ∧ Aside0 (wr = W)) (fun _ _ => 0)
  case atStart => exact ⟨rfl, ⟨rfl⟩⟩
  case round =>
    obtain ⟨rfl, HW⟩ := hrel
    go_wp2
    go_ret
    exact ⟨rfl, HW.out⟩
set_option maxHeartbeats 800000 in
set_option maxRecDepth 100000 in
theorem deleteFunc_nil1 (k1 k2 k3 : Value) (W : World) : Calls Try.prog 78 #[.slice none 0 0, .func (.func 80) #[] #[k1, k2, k3]] W fun e w' => e = .returned (.slice none 0 0) ∧ w' = W := by
  have HI := Aside0.mk (indexFunc_nil1 k1 k2 k3 W)
  go_enter Try.func78, Try.ntmps78
  go_wp2_with (go_at_call 82; (with_reducible refine HI.out.mono ?_); rintro e w' ⟨rfl, rfl⟩)
  go_ret
  exact ⟨rfl, rfl⟩

end Go.Proofs.Ytofkafbcbghkeaa.E
