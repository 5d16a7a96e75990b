-- WRITTEN by xprint.py, a program of this session that drives the kit's printer: out of the translation. Lean checks it.
import Derived.Test.YtofkafbcbghkeaaE0
import Derived.Test.YtofkafbcbghkeaaE1
import Derived.Test.YtofkafbcbghkeaaE3
import Derived.Test.YtofkafbcbghkeaaE8
import Derived.Test.YtofkafbcbghkeaaE9
import Derived.Test.YtofkafbcbghkeaaE10
import Derived.Test.YtofkafbcbghkeaaE16
import Derived.Test.YtofkafbcbghkeaaE22
import Derived.Test.YtofkafbcbghkeaaE24
import Derived.Test.YtofkafbcbghkeaaE25
import Derived.Test.YtofkafbcbghkeaaE26
import Derived.Test.YtofkafbcbghkeaaWLast
import Derived.Test.YtofkafbcbghkeaaWWords
namespace Go.Proofs.Ytofkafbcbghkeaa.E
open Go.RowKit Go.Proofs.YtofkafbcbghkeaaW.PrintWords Go.Proofs.YtofkafbcbghkeaaW.PrintLast
set_option linter.unusedVariables false
set_option linter.unusedSimpArgs false

-- OURS, BY HAND
/-! ### impl_LongestTalk: function 36 -/
-- func impl.LongestTalk
-- ext rounds=0 making=1
-- needs spec.LongestTalk
-- needs impl.knowing
-- needs impl.allPairs
-- needs impl.isMost
-- needs impl.isWho
-- import Derived.Maps.Own
-- import Derived.Maps.OwnOps
-- import Derived.Maps.OwnSet
-- import Derived.Maps.Views
-- import Derived.WideKeyArr
-- import Derived.WalkKit
-- import Derived.WalkSpells
-- import Derived.Deep.RegionWith
-- import Derived.Deep.RegionLaw
-- import Derived.IntWalk
-- seat Ytofkafbcbghkeaa
def impl_LongestTalk.f (m : Int) (s : ByteArray) : Option (Int × Int × Int × Bool) := spec_LongestTalk.f m s
/-- The pair so far. -/
def lgRow (P : List (List Int)) (l : List Int) (i : Nat) : List Int := if 0 < (lgAt l i).2 then P.getD (lgAt l i).1 [] else [0, 0]
set_option maxHeartbeats 1600000 in
theorem impl_LongestTalk.calls (m : Int) (s : ByteArray) (r1 r2 r3 : Int) (r4 : Bool) (W : World) (h : impl_LongestTalk.f m s = some (r1, r2, r3, r4)) :
    Calls Try.prog 36 #[.int .i64 m, .string s] W fun e w' => e = .returned (.tuple #[.int .i64 r1, .int .i64 r2, .int .i64 r3, .bool r4]) ∧ Below W.heap.size W w' := by
  unfold impl_LongestTalk.f spec_LongestTalk.f at h
  have HA := Aside0.mk (fun w => impl_isMost.calls m _ w (isMost_is m))
  have HT := Aside0.mk (fun w => impl_isWho.calls s (kwWho s) w (who_is2 s))
  cases hp : decide (2 ≤ m ∧ m ≤ 40) with
  | false =>
    rw [hp] at HA
    rw [hp, Bool.false_and, if_neg (by simp)] at h
    simp only [Option.some.injEq, Prod.mk.injEq] at h
    obtain ⟨rfl, rfl, rfl, rfl⟩ := h
    clear hp
    go_enter Try.func36, Try.ntmps36
    go_wp2_with (go_at_call 44; (with_reducible refine (HA.out _).mono ?_); rintro e w' ⟨rfl, ⟨nd, rfl⟩⟩)
    (try simp only [Exit.inBlock, Exit.then]); refine bodyPost_ret (results_list (rs := [.tmp 4, .tmp 5, .tmp 6, .tmp 7]) rfl (by simp) (.tmp (.tmp (.tmp (.tmp .nil))))) rfl ?_
    exact ⟨rfl, pw_below_drewN (Below.refl _ _) _⟩
  | true =>
    cases ht : kwWho s with
    | false =>
      rw [hp] at HA
      rw [ht] at HT
      rw [hp, ht, if_neg (by simp)] at h
      simp only [Option.some.injEq, Prod.mk.injEq] at h
      obtain ⟨rfl, rfl, rfl, rfl⟩ := h
      clear hp ht
      go_enter Try.func36, Try.ntmps36
      go_wp2_with (first | (go_at_call 44; (with_reducible refine (HA.out _).mono ?_); rintro e w' ⟨rfl, ⟨nd, rfl⟩⟩) | (go_at_call 57; (with_reducible refine (HT.out _).mono ?_); rintro e w' ⟨rfl, ⟨nd2, rfl⟩⟩))
      (try simp only [Exit.inBlock, Exit.then]); refine bodyPost_ret (results_list (rs := [.tmp 4, .tmp 5, .tmp 6, .tmp 7]) rfl (by simp) (.tmp (.tmp (.tmp (.tmp .nil))))) rfl ?_
      exact ⟨rfl, pw_below_drewN (Below.refl _ _) _⟩
    | true =>
      have hm := of_decide_eq_true hp
      have hw := who_of ht
      have HK := Aside0.mk (fun W => knowing_calls m.toNat (by omega) (kwSum s) W)
      have HP := Aside0.mk (fun W => allPairs_calls m.toNat (by omega) W)
      have hle := times_le m.toNat (kwSum s) (by omega)
      have hsm := prs_small m.toNat (by omega)
      have hpos : 0 < (prs m.toNat m.toNat).length := List.length_pos_of_mem (prs_has m.toNat 1 1 (Nat.le_refl _) (Nat.le_refl _) (by omega) m.toNat (by omega))
      have hll : (timesL m.toNat (kwSum s) (kwEnd m.toNat (kwSum s))).length = (prs m.toNat m.toNat).length := by
        unfold timesL
        rw [List.length_map]
      have HAG := Aside0.mk (fun x h => prs_ages m.toNat m.toNat (by omega) (Nat.le_refl _) x h)
      have HTI := Aside0.mk (show ∀ (i : Nat) (h : i < (prs m.toNat m.toNat).length), (timesL m.toNat (kwSum s) (kwEnd m.toNat (kwSum s))).getD i 0 = kwTime m.toNat (kwSum s) (kwEnd m.toNat (kwSum s)) (rd ((prs m.toNat m.toNat).getD i []) 0) (rd ((prs m.toNat m.toNat).getD i []) 1) from fun i h => by
        unfold timesL
        simp [List.getD, List.getElem?_eq_getElem h])
      rw [Int.toNat_of_nonneg (by omega), ← hw] at HK
      rw [Int.toNat_of_nonneg (by omega)] at HP
      rw [hp] at HA
      rw [ht] at HT
      rw [hp, ht, Bool.and_self, if_pos rfl] at h
      unfold lgOf at h
      obtain ⟨l, hl⟩ : ∃ l, l = timesL m.toNat (kwSum s) (kwEnd m.toNat (kwSum s)) := ⟨_, rfl⟩
      obtain ⟨P, hP⟩ : ∃ P, P = prs m.toNat m.toNat := ⟨_, rfl⟩
      obtain ⟨tf, htf⟩ : ∃ tf, tf = kwTime m.toNat (kwSum s) (kwEnd m.toNat (kwSum s)) := ⟨_, rfl⟩
      obtain ⟨hf, hhf⟩ : ∃ hf, hf = kwHas m.toNat (kwSum s) (kwEnd m.toNat (kwSum s)) := ⟨_, rfl⟩
      obtain ⟨ln, hln⟩ : ∃ ln, ln = (prs m.toNat m.toNat).length - (kwState m.toNat (kwSum s) (kwEnd m.toNat (kwSum s))).1.length := ⟨_, rfl⟩
      rw [← hln, ← htf, ← hhf] at HK
      rw [← hl] at hll hle h
      rw [← hl, ← htf] at HTI
      rw [← hP] at HP HAG hll hpos hsm h HTI
      rw [← hll] at h
      have HH := Aside0.mk h
      clear hp ht hw hm hl hP h htf hhf hln
      go_enter Try.func36, Try.ntmps36
      go_wp2_with (first | (go_at_call 44; (with_reducible refine (HA.out _).mono ?_); rintro e w' ⟨rfl, ⟨nd, rfl⟩⟩) | (go_at_call 57; (with_reducible refine (HT.out _).mono ?_); rintro e w' ⟨rfl, ⟨nd2, rfl⟩⟩) | (go_at_call 59; (with_reducible refine (HK.out _).mono ?_); rintro e w1 ⟨rfl, hmp, hb⟩; have HM := Aside0.mk (show MapP w1 (W.heap.size + 1) ln tf hf by simpa using hmp); have HCE := Aside0.mk (show w1.cell? ⟨W.heap.size, 0, none⟩ = some (.int .i64 0) ∧ w1.cell? ⟨W.heap.size, 1, none⟩ = some (.int .i64 0) from ⟨(hb.cell (by simp)).trans (by simp [World.cell?, World.alloc]), (hb.cell (by simp)).trans (by simp [World.cell?, World.alloc])⟩); have HB := Aside0.mk (show Below W.heap.size W w1 from below_then ((pw_below_drewN (Below.refl _ _) _).alloc (by simp) _) (by simp) hb); clear hb hmp) | (go_at_call 58; (with_reducible refine (HP.out _).mono ?_); rintro e w3 ⟨A3, c3, rfl, q3, hC3, hb3⟩; have HB3 := Aside0.mk (show Below W.heap.size W w3 from below_step HB.out hb3); have HM3 := Aside0.mk (HM.out.of_block (hb3.block _ HM.out.lt)); have HCE3 := Aside0.mk (show w3.cell? ⟨W.heap.size, 0, none⟩ = some (.int .i64 0) ∧ w3.cell? ⟨W.heap.size, 1, none⟩ = some (.int .i64 0) from ⟨(hb3.cell (World.block_lt_of_cell? w1 _ HCE.out.1)).trans HCE.out.1, (hb3.cell (World.block_lt_of_cell? w1 _ HCE.out.2)).trans HCE.out.2⟩); have HC3 := Aside0.mk hC3; clear hC3 hb3))
      go_loopw [8, 9, 29] (fun v8 v9 v29 wr => ∃ (i : Nat) (ad : Addr) (c : Nat), i ≤ P.length ∧ v29 = .int .i64 (i : Int) ∧ v8 = .slice (some ad) 2 c ∧ v9 = .int .i64 (lgAt l i).2 ∧ Aside0 (wr.cell? (ad.add 0) = some (.int .i64 (rd (lgRow P l i) 0)) ∧ wr.cell? (ad.add 1) = some (.int .i64 (rd (lgRow P l i) 1))) ∧ Aside0 (MapP wr (W.heap.size + 1) ln tf hf) ∧ Aside0 (Kd.C (Kd.slice 3 (Kd.int .i64)) wr A3 P.length P) ∧ Aside0 (Below W.heap.size W wr)) (fun _ _ v29 _ => P.length - (intOf v29).toNat)
      case atStart => exact ⟨0, ⟨W.heap.size, 0, none⟩, 2, Nat.zero_le _, rfl, rfl, rfl, HCE3, HM3, HC3, HB3⟩
      case round =>
        obtain ⟨i, ad, c, hi, rfl, rfl, rfl, HCL, HM2, HP2, HB2⟩ := hrel
        have hlp := lgAt_pos l i
        have hl5 := lgAt_le l hle i
        have hlj := lgAt_lt l (by omega) i (by omega)
        have HE := Aside0.mk (show lgAt l (i + 1) = if (lgAt l i).2 < l.getD i 0 then (i, l.getD i 0) else lgAt l i from rfl)
        obtain ⟨j, hj⟩ : ∃ j, j = (lgAt l i).1 := ⟨_, rfl⟩
        obtain ⟨v, hv⟩ : ∃ v, v = (lgAt l i).2 := ⟨_, rfl⟩
        have hjv : lgAt l i = (j, v) := by rw [hj, hv]
        rw [← hv] at hlp hl5
        rw [← hj] at hlj
        rw [← hv]
        have HJV := Aside0.mk hjv
        clear hjv hj hv
        by_cases hlt : i < P.length
        · have hlt1 : decide ((i : Int) < (P.length : Int)) = true := decide_eq_true (by omega)
          obtain ⟨ad2, Ax, cx, rfl, hx0, hx1, hCx, _⟩ := row_at HP2.out (Below.refl _ _) hlt
          obtain ⟨a, b, ha1, hab, hb40, hxe⟩ := HAG.out P[i] (List.getElem_mem hlt)
          have hgp : P.getD i [] = P[i] := by simp [List.getD, List.getElem?_eq_getElem hlt]
          have hti := HTI.out i hlt
          have e0 : rd [(a : Int), (b : Int)] 0 = (a : Int) := rfl
          have e1 : rd [(a : Int), (b : Int)] 1 = (b : Int) := rfl
          rw [hgp, hxe, e0, e1] at hti
          have hli : l.getD i 0 ≤ 5000 := by
            simp only [List.getD, List.getElem?_eq_getElem (show i < l.length by omega), Option.getD_some]
            exact hle _ (List.getElem_mem _)
          rw [hxe] at hx0 hx1 hCx hgp
          obtain ⟨adx, rfl, _⟩ := hCx.2.2 (by simp)
          have hp0 : wr.cell? (adx.add 0) = some (.int .i64 (a : Int)) := (rows_load hCx).1
          have hp1 : wr.cell? (adx.add 1) = some (.int .i64 (b : Int)) := (rows_load hCx).2
          have hp2 : wr.cell? adx = some (.int .i64 (a : Int)) := hp0
          have hp3 : wr.cell? { block := adx.block, off := adx.off + 1 } = some (.int .i64 (b : Int)) := hp1
          have hsa := run_arrayAt (some adx) cx
          have HWA := Aside0.mk (age_wf (a := a) (by omega))
          have HWB2 := Aside0.mk (age_wf (a := b) (by omega))
          obtain ⟨D, hown, hat, hsz⟩ := HM2.out
          have HO := Aside0.mk hown
          have hat2 := (hat (a : Int) (b : Int) HWA.out HWB2.out).1
          rw [← hti] at hat2
          obtain ⟨u, hu⟩ : ∃ u, u = l.getD i 0 := ⟨_, rfl⟩
          rw [← hu] at hat2 HE hli
          have HAT := Aside0.mk hat2
          have HGP := Aside0.mk hgp
          clear hCx hgp hxe hti e0 e1 hown hat hsz hat2 hu
          by_cases hz : v < u
          · have hz2 : decide (u > v) = true := decide_eq_true hz
            rw [HJV.out, if_pos hz] at HE
            have hu0 : 0 < u := by omega
            have HROW := Aside0.mk (show lgRow P l (i + 1) = [(a : Int), (b : Int)] by unfold lgRow; rw [HE.out, if_pos hu0]; exact HGP.out)
            clear hz
            go_wp2_with (at_lookup; refine wpList_lookup_own_int _ rfl _ _ 55 rfl 59 3 .i64 law59 Try.underlying55 Try.underlying3 (zero3 _) _ _ D rfl HO.out _ _ rfl (kwKey_is HWA.out HWB2.out) ?_; intro cc hat3 hwc; obtain rfl : u = cc := (by have e1 := HAT.out.symm.trans hat3; injection e1 with e1; injection e1); clear hat3 hwc)
            go_roundw
            case rel => exact ⟨i + 1, adx, cx, by omega, by go_num, rfl, by rw [HE.out], ⟨by rw [HROW.out]; exact ⟨hp0, hp1⟩⟩, HM2, HP2, HB2⟩
            case measure => simp [intOf]; omega
          · have hz2 : decide (u > v) = false := decide_eq_false hz
            rw [HJV.out, if_neg hz] at HE
            have HROW := Aside0.mk (show lgRow P l (i + 1) = lgRow P l i by unfold lgRow; rw [HE.out, HJV.out])
            clear hz
            go_wp2_with (at_lookup; refine wpList_lookup_own_int _ rfl _ _ 55 rfl 59 3 .i64 law59 Try.underlying55 Try.underlying3 (zero3 _) _ _ D rfl HO.out _ _ rfl (kwKey_is HWA.out HWB2.out) ?_; intro cc hat3 hwc; obtain rfl : u = cc := (by have e1 := HAT.out.symm.trans hat3; injection e1 with e1; injection e1); clear hat3 hwc)
            go_roundw
            case rel => exact ⟨i + 1, ad, c, by omega, by go_num, rfl, by rw [HE.out], ⟨by rw [HROW.out]; exact HCL.out⟩, HM2, HP2, HB2⟩
            case measure => simp [intOf]; omega
        · obtain rfl : i = P.length := by omega
          have hlt1 : decide ((P.length : Int) < (P.length : Int)) = false := decide_eq_false (by omega)
          obtain ⟨x0, hx0⟩ : ∃ x0, x0 = rd (lgRow P l P.length) 0 := ⟨_, rfl⟩
          obtain ⟨x1, hx1⟩ : ∃ x1, x1 = rd (lgRow P l P.length) 1 := ⟨_, rfl⟩
          have hcl := HCL.out
          rw [← hx0, ← hx1] at hcl
          have hp0 : ∀ mm, (wr.drewN mm).cell? (ad.add 0) = some (.int .i64 x0) := fun mm => hcl.1
          have hp1 : ∀ mm, (wr.drewN mm).cell? (ad.add 1) = some (.int .i64 x1) := fun mm => hcl.2
          have hp2 : ∀ mm, (wr.drewN mm).cell? ad = some (.int .i64 x0) := hp0
          have hp3 : ∀ mm, (wr.drewN mm).cell? { block := ad.block, off := ad.off + 1 } = some (.int .i64 x1) := hp1
          have hres : x0 = r1 ∧ x1 = r2 ∧ v = r3 ∧ decide (v > 0) = r4 := by
            have hh := HH.out
            rw [hll, HJV.out] at hh
            unfold lgRow at hx0 hx1
            rw [HJV.out] at hx0 hx1
            by_cases hv0 : 0 < v
            · rw [if_pos hv0] at hh hx0 hx1
              simp only [Option.some.injEq, Prod.mk.injEq] at hh
              exact ⟨by rw [hx0]; exact hh.1, by rw [hx1]; exact hh.2.1, hh.2.2.1, by rw [← hh.2.2.2]; exact decide_eq_true hv0⟩
            · rw [if_neg hv0] at hh hx0 hx1
              simp only [Option.some.injEq, Prod.mk.injEq] at hh
              exact ⟨by rw [hx0]; exact hh.1, by rw [hx1]; exact hh.2.1, by rw [← hh.2.2.1]; omega, by rw [← hh.2.2.2]; exact decide_eq_false hv0⟩
          obtain ⟨rfl, rfl, rfl, rfl⟩ := hres
          clear hcl hx0 hx1
          go_wp2
          go_quiet (fail)
          go_wp2
          (try simp only [Exit.inBlock, Exit.then]); refine bodyPost_ret (results_list (rs := [.tmp 4, .tmp 5, .tmp 6, .tmp 7]) rfl (by simp) (.tmp (.tmp (.tmp (.tmp .nil))))) rfl ?_
          exact ⟨rfl, pw_below_drewN HB2.out _⟩

end Go.Proofs.Ytofkafbcbghkeaa.E
