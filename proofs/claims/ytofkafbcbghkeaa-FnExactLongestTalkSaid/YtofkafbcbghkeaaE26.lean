-- WRITTEN by xprint.py, a program of this session that drives the kit's printer: out of the translation. Lean checks it.
import Derived.Test.YtofkafbcbghkeaaE0
import Derived.Test.YtofkafbcbghkeaaE1
import Derived.Test.YtofkafbcbghkeaaE6
import Derived.Test.YtofkafbcbghkeaaE8
import Derived.Test.YtofkafbcbghkeaaE10
import Derived.Test.YtofkafbcbghkeaaE16
import Derived.Test.YtofkafbcbghkeaaE19
import Derived.Test.YtofkafbcbghkeaaE22
import Derived.Test.YtofkafbcbghkeaaE24
import Derived.Test.YtofkafbcbghkeaaE25
import Derived.Test.YtofkafbcbghkeaaWLast
import Derived.Test.YtofkafbcbghkeaaWWords
namespace Go.Proofs.Ytofkafbcbghkeaa.E
open Go.RowKit Go.Proofs.YtofkafbcbghkeaaW.PrintWords Go.Proofs.YtofkafbcbghkeaaW.PrintLast
set_option linter.unusedVariables false
set_option linter.unusedSimpArgs false

-- OURS, BY HAND
/-! ### spec_LongestTalk: function 35 -/
-- func spec.LongestTalk
-- ext rounds=0 making=1
-- needs spec.taTimes
-- needs spec.taPairs
-- needs spec.KnownAfter
-- needs spec.taLimit
-- needs spec.taWho
-- import Derived.Maps.Own
-- import Derived.Maps.OwnOps
-- import Derived.Maps.OwnSet
-- import Derived.Maps.Views
-- import Derived.WideKeyArr
-- import Derived.WalkKit
-- import Derived.WalkSpells
-- import Derived.Deep.RegionWith
-- import Derived.Deep.RegionLaw
-- import Derived.IntWalk
-- seat Ytofkafbcbghkeaa
/-- The first place of the greatest, and the greatest, among the first i. -/
def lgAt (l : List Int) : Nat → Nat × Int
  | 0 => (0, 0)
  | i + 1 => if (lgAt l i).2 < l.getD i 0 then (i, l.getD i 0) else lgAt l i
theorem lgAt_lt (l : List Int) (hl : 0 < l.length) : ∀ i, i ≤ l.length → (lgAt l i).1 < l.length
  | 0, _ => hl
  | i + 1, h => by
    have ih := lgAt_lt l hl i (by omega)
    unfold lgAt
    split
    · exact h
    · exact ih
theorem lgAt_pos (l : List Int) : ∀ i, 0 ≤ (lgAt l i).2
  | 0 => Int.le_refl _
  | i + 1 => by
    have ih := lgAt_pos l i
    unfold lgAt
    split
    · next h => exact Int.le_trans ih (Int.le_of_lt h)
    · exact ih
theorem lgAt_le (l : List Int) (hb : ∀ x ∈ l, x ≤ 5000) : ∀ i, (lgAt l i).2 ≤ 5000
  | 0 => (by decide : (0 : Int) ≤ 5000)
  | i + 1 => by
    have ih := lgAt_le l hb i
    unfold lgAt
    split
    · next h =>
      show l.getD i 0 ≤ 5000
      rw [List.getD_eq_getElem?_getD]
      cases h2 : l[i]? with
      | none => exact (by decide : (0 : Int) ≤ 5000)
      | some x => exact hb x (List.mem_of_getElem? h2)
    · exact ih
/-- What the longest talk is: the pair, how long, is there one. -/
def lgOf (m : Nat) (b0 : Bool) : Int × Int × Int × Bool :=
  let p := lgAt (timesL m b0 (kwEnd m b0)) (prs m m).length
  if 0 < p.2 then (rd ((prs m m).getD p.1 []) 0, rd ((prs m m).getD p.1 []) 1, p.2, true) else (0, 0, 0, false)
def spec_LongestTalk.f (m : Int) (s : ByteArray) : Option (Int × Int × Int × Bool) := if (decide (2 ≤ m ∧ m ≤ 40) && kwWho s) = true then some (lgOf m.toNat (kwSum s)) else some (0, 0, 0, false)
theorem times_le (m : Nat) (b0 : Bool) (hm : m ≤ 40) : ∀ x ∈ timesL m b0 (kwEnd m b0), x ≤ 5000 := by
  intro x hx
  unfold timesL at hx
  obtain ⟨y, _, rfl⟩ := List.mem_map.1 hx
  exact (known_wf m b0 hm (rd y 0) (rd y 1)).2
set_option maxHeartbeats 1600000 in
theorem spec_LongestTalk.calls (m : Int) (s : ByteArray) (r1 r2 r3 : Int) (r4 : Bool) (W : World) (h : spec_LongestTalk.f m s = some (r1, r2, r3, r4)) :
    Calls Try.prog 35 #[.int .i64 m, .string s] W fun e w' => e = .returned (.tuple #[.int .i64 r1, .int .i64 r2, .int .i64 r3, .bool r4]) ∧ Below W.heap.size W w' := by
  unfold spec_LongestTalk.f at h
  have HA := Aside0.mk (fun w => spec_taLimit.calls m _ w (taLimit_is m))
  have HT := Aside0.mk (fun w => spec_taWho.calls s (kwWho s) w (who_is s))
  cases hp : decide (2 ≤ m ∧ m ≤ 40) with
  | false =>
    rw [hp] at HA
    rw [hp, Bool.false_and, if_neg (by simp)] at h
    simp only [Option.some.injEq, Prod.mk.injEq] at h
    obtain ⟨rfl, rfl, rfl, rfl⟩ := h
    clear hp
    go_enter Try.func35, Try.ntmps35
    go_wp2_with (go_at_call 41; (with_reducible refine (HA.out _).mono ?_); rintro e w' ⟨rfl, ⟨nd, rfl⟩⟩)
    (try simp only [Exit.inBlock, Exit.then]); refine bodyPost_ret (results_list (rs := [.tmp 4, .tmp 5, .tmp 6, .tmp 7]) rfl (by simp) (.tmp (.tmp (.tmp (.tmp .nil))))) rfl ?_
    exact ⟨rfl, pw_below_drewN (Below.refl _ _) _⟩
  | true =>
    cases ht : kwWho s with
    | false =>
      rw [hp] at HA
      rw [ht] at HT
      rw [hp, ht, if_neg (by simp)] at h
      simp only [Option.some.injEq, Prod.mk.injEq] at h
      obtain ⟨rfl, rfl, rfl, rfl⟩ := h
      clear hp ht
      go_enter Try.func35, Try.ntmps35
      go_wp2_with (first | (go_at_call 41; (with_reducible refine (HA.out _).mono ?_); rintro e w' ⟨rfl, ⟨nd, rfl⟩⟩) | (go_at_call 55; (with_reducible refine (HT.out _).mono ?_); rintro e w' ⟨rfl, ⟨nd2, rfl⟩⟩))
      (try simp only [Exit.inBlock, Exit.then]); refine bodyPost_ret (results_list (rs := [.tmp 4, .tmp 5, .tmp 6, .tmp 7]) rfl (by simp) (.tmp (.tmp (.tmp (.tmp .nil))))) rfl ?_
      exact ⟨rfl, pw_below_drewN (Below.refl _ _) _⟩
    | true =>
      have hm := of_decide_eq_true hp
      have hw := who_of ht
      have HK := Aside0.mk (fun W => taTimes_calls m.toNat (by omega) (by omega) (kwSum s) W)
      have HP := Aside0.mk (fun W => taPairs_calls m.toNat (by omega) W)
      have hle := times_le m.toNat (kwSum s) (by omega)
      have hsm := prs_small m.toNat (by omega)
      have hpos : 0 < (prs m.toNat m.toNat).length := List.length_pos_of_mem (prs_has m.toNat 1 1 (Nat.le_refl _) (Nat.le_refl _) (by omega) m.toNat (by omega))
      have hll : (timesL m.toNat (kwSum s) (kwEnd m.toNat (kwSum s))).length = (prs m.toNat m.toNat).length := by
        unfold timesL
        rw [List.length_map]
      have HAG := Aside0.mk (fun x h => prs_ages m.toNat m.toNat (by omega) (Nat.le_refl _) x h)
      rw [Int.toNat_of_nonneg (by omega), ← hw] at HK
      rw [Int.toNat_of_nonneg (by omega)] at HP
      rw [hp] at HA
      rw [ht] at HT
      rw [hp, ht, Bool.and_self, if_pos rfl] at h
      unfold lgOf at h
      obtain ⟨l, hl⟩ : ∃ l, l = timesL m.toNat (kwSum s) (kwEnd m.toNat (kwSum s)) := ⟨_, rfl⟩
      obtain ⟨P, hP⟩ : ∃ P, P = prs m.toNat m.toNat := ⟨_, rfl⟩
      rw [← hl] at HK hll hle h
      rw [← hP] at HP HAG hll hpos hsm h
      rw [← hll] at h
      have HH := Aside0.mk h
      clear hp ht hw hm hl hP h
      go_enter Try.func35, Try.ntmps35
      go_wp2_with (first | (go_at_call 41; (with_reducible refine (HA.out _).mono ?_); rintro e w' ⟨rfl, ⟨nd, rfl⟩⟩) | (go_at_call 55; (with_reducible refine (HT.out _).mono ?_); rintro e w' ⟨rfl, ⟨nd2, rfl⟩⟩) | (go_at_call 42; (with_reducible refine (HP.out _).mono ?_); rintro e w3 ⟨A3, c3, rfl, q3, hC3, hb3⟩; have HB3 := Aside0.mk hb3; have HC3 := Aside0.mk hC3; clear hC3 hb3) | (go_at_call 56; (with_reducible refine (HK.out _).mono ?_); rintro e w1 ⟨v1, rfl, hR, hb⟩; obtain ⟨A1, c1, rfl, q1, q2⟩ := Kd.R_reads hR; have HC := Aside0.mk q2; have HPC := Aside0.mk (Kd.C_below HC3.out hb); have HB := Aside0.mk (show Below W.heap.size W w1 from below_step (below_then (by repeat (first | exact Below.refl _ _ | apply pw_below_drewN)) (by simp) HB3.out) hb); clear hR hb q2))
      go_loopw [9, 10, 27] (fun v9 v10 v27 wr => ∃ i : Nat, i ≤ l.length ∧ v27 = .int .i64 (i : Int) ∧ v9 = .int .i64 (((lgAt l i).1 : Nat) : Int) ∧ v10 = .int .i64 (lgAt l i).2 ∧ Aside0 (Kd.C (Kd.int .i64) wr A1 l.length l) ∧ Aside0 (Kd.C (Kd.slice 3 (Kd.int .i64)) wr A3 P.length P) ∧ Aside0 (Below W.heap.size W wr)) (fun _ _ v27 _ => l.length - (intOf v27).toNat)
      case atStart => exact ⟨0, Nat.zero_le _, rfl, rfl, rfl, HC, HPC, HB⟩
      case round =>
        obtain ⟨i, hi, rfl, rfl, rfl, HC2, HP2, HB2⟩ := hrel
        have hlp := lgAt_pos l i
        have hl5 := lgAt_le l hle i
        have hlj := lgAt_lt l (by omega) i hi
        have HE := Aside0.mk (show lgAt l (i + 1) = if (lgAt l i).2 < l.getD i 0 then (i, l.getD i 0) else lgAt l i from rfl)
        obtain ⟨j, hj⟩ : ∃ j, j = (lgAt l i).1 := ⟨_, rfl⟩
        obtain ⟨v, hv⟩ : ∃ v, v = (lgAt l i).2 := ⟨_, rfl⟩
        have hjv : lgAt l i = (j, v) := by rw [hj, hv]
        rw [← hv] at hlp hl5
        rw [← hj] at hlj
        rw [← hj, ← hv]
        have HJV := Aside0.mk hjv
        clear hjv hj hv
        by_cases hlt : i < l.length
        · have hlt1 : decide ((i : Int) < (l.length : Int)) = true := decide_eq_true (by omega)
          obtain ⟨ad, rfl, hcell⟩ := Kd.at_int HC2.out (i : Int) (Int.natCast_nonneg _) (Int.ofNat_lt.2 hlt)
          rw [Int.toNat_natCast] at hcell
          have hri : rd l (i : Int) = l[i] := by simp [rd, List.getD, List.getElem?_eq_getElem hlt]
          have hgd : l.getD i 0 = l[i] := by simp [List.getD, List.getElem?_eq_getElem hlt]
          rw [hri] at hcell
          rw [hgd] at HE
          have hli := hle l[i] (List.getElem_mem hlt)
          clear hri hgd
          by_cases hz : v < l[i]
          · have hz2 : decide (l[i] > v) = true := decide_eq_true hz
            rw [HJV.out, if_pos hz] at HE
            clear hz
            go_wp2
            go_roundw
            case rel => exact ⟨i + 1, by omega, by go_num, by rw [HE.out], by rw [HE.out], HC2, HP2, HB2⟩
            case measure => simp [intOf]; omega
          · have hz2 : decide (l[i] > v) = false := decide_eq_false hz
            rw [HJV.out, if_neg hz] at HE
            clear hz
            go_wp2
            go_roundw
            case rel => exact ⟨i + 1, by omega, by go_num, by rw [HE.out], by rw [HE.out], HC2, HP2, HB2⟩
            case measure => simp [intOf]; omega
        · obtain rfl : i = l.length := by omega
          have hlt1 : decide ((l.length : Int) < (l.length : Int)) = false := decide_eq_false (by omega)
          rw [HJV.out] at HH
          by_cases hv0 : v = 0
          · subst hv0
            have hh := HH.out
            rw [if_neg (by simp)] at hh
            simp only [Option.some.injEq, Prod.mk.injEq] at hh
            obtain ⟨rfl, rfl, rfl, rfl⟩ := hh
            go_wp2
            (try simp only [Exit.inBlock, Exit.then]); refine bodyPost_ret (results_list (rs := [.tmp 4, .tmp 5, .tmp 6, .tmp 7]) rfl (by simp) (.tmp (.tmp (.tmp (.tmp .nil))))) rfl ?_
            exact ⟨rfl, HB2.out⟩
          · have hv1 : (v == 0) = false := by simpa using hv0
            have hh := HH.out
            rw [if_pos (show 0 < v by omega)] at hh
            have hjP : j < P.length := by omega
            obtain ⟨ad, Ax, cx, rfl, hx0, hx1, hCx, _⟩ := row_at HP2.out (Below.refl _ _) hjP
            have hgp : P.getD j [] = P[j] := by simp [List.getD, List.getElem?_eq_getElem hjP]
            obtain ⟨a, b, ha1, hab, hb40, hxe⟩ := HAG.out P[j] (List.getElem_mem hjP)
            rw [hxe] at hx0 hx1 hCx
            have e0 : rd [(a : Int), (b : Int)] 0 = (a : Int) := rfl
            have e1 : rd [(a : Int), (b : Int)] 1 = (b : Int) := rfl
            simp only [hgp, hxe, e0, e1, Option.some.injEq, Prod.mk.injEq] at hh
            obtain ⟨rfl, rfl, rfl, rfl⟩ := hh
            obtain ⟨adx, rfl, _⟩ := hCx.2.2 (by simp)
            have hp0 : ∀ mm, (wr.drewN mm).cell? (adx.add 0) = some (.int .i64 (a : Int)) := fun mm => (rows_load (Kd.C_drewN hCx mm)).1
            have hp1 : ∀ mm, (wr.drewN mm).cell? (adx.add 1) = some (.int .i64 (b : Int)) := fun mm => (rows_load (Kd.C_drewN hCx mm)).2
            have hp2 : ∀ mm, (wr.drewN mm).cell? adx = some (.int .i64 (a : Int)) := hp0
            have hp3 : ∀ mm, (wr.drewN mm).cell? { block := adx.block, off := adx.off + 1 } = some (.int .i64 (b : Int)) := hp1
            have hx2 : ∀ mm, (wr.drewN mm).cell? (ad.add j) = some (.slice (some adx) 2 cx) := fun mm => hx0
            clear hCx hgp hxe
            go_wp2
            go_quiet (fail)
            go_wp2
            (try simp only [Exit.inBlock, Exit.then]); refine bodyPost_ret (results_list (rs := [.tmp 4, .tmp 5, .tmp 6, .tmp 7]) rfl (by simp) (.tmp (.tmp (.tmp (.tmp .nil))))) rfl ?_
            exact ⟨rfl, pw_below_drewN HB2.out _⟩

end Go.Proofs.Ytofkafbcbghkeaa.E
