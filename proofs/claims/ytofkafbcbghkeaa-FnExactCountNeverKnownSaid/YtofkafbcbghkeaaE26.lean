-- WRITTEN by xprint.py, a program of this session that drives the kit's printer: out of the translation. Lean checks it.
import Derived.Test.YtofkafbcbghkeaaE0
import Derived.Test.YtofkafbcbghkeaaE1
import Derived.Test.YtofkafbcbghkeaaE8
import Derived.Test.YtofkafbcbghkeaaE10
import Derived.Test.YtofkafbcbghkeaaE14
import Derived.Test.YtofkafbcbghkeaaE16
import Derived.Test.YtofkafbcbghkeaaE22
import Derived.Test.YtofkafbcbghkeaaE24
import Derived.Test.YtofkafbcbghkeaaE25
import Derived.Test.YtofkafbcbghkeaaWLast
import Derived.Test.YtofkafbcbghkeaaWWords
namespace Go.Proofs.Ytofkafbcbghkeaa.E
open Go.RowKit Go.Proofs.YtofkafbcbghkeaaW.PrintWords Go.Proofs.YtofkafbcbghkeaaW.PrintLast
set_option linter.unusedVariables false
set_option linter.unusedSimpArgs false

-- OURS, BY HAND
/-! ### spec_CountNeverKnown: function 29 -/
-- func spec.CountNeverKnown
-- ext rounds=0 making=1
-- needs spec.taTimes
-- needs spec.taLimit
-- needs spec.taWho
-- import Derived.Maps.Own
-- import Derived.Maps.OwnOps
-- import Derived.Maps.OwnSet
-- import Derived.Maps.Views
-- import Derived.WideKeyArr
-- import Derived.WalkKit
-- import Derived.WalkSpells
-- import Derived.Deep.RegionWith
-- import Derived.Deep.RegionLaw
-- import Derived.IntWalk
-- seat Ytofkafbcbghkeaa
theorem kst_filter (m : Nat) (b0 : Bool) (hm : m ≤ 40) : ∀ n, (kwState m b0 n).1 = (prs m m).filter fun x => !kwHas m b0 n (rd x 0) (rd x 1)
  | 0 => by
    show prs m m = _
    exact (List.filter_eq_self.2 (fun x _ => rfl)).symm
  | n + 1 => by
    have ih := kst_filter m b0 hm n
    have e : (kwState m b0 (n + 1)).1 = (prs m m).filter fun x => (!kwHas m b0 n (rd x 0) (rd x 1)) && keepsW (kwState m b0 n).2.1 45 (kwState m b0 n).1 x := by
      show (kwState m b0 n).1.filter (keepsW (kwState m b0 n).2.1 45 (kwState m b0 n).1) = _
      conv => lhs; arg 2; rw [ih]
      rw [List.filter_filter]
      congr 1
      funext x
      exact Bool.and_comm _ _
    rw [e]
    refine List.filter_congr fun x hx => ?_
    obtain ⟨a, b, h1, h2, h3, rfl⟩ := prs_ages m m hm (Nat.le_refl _) x hx
    have hi := kwHas_iff m b0 (a : Int) (b : Int) hx (n + 1)
    have hmem : [(a : Int), (b : Int)] ∈ (kwState m b0 (n + 1)).1 ↔ ((!kwHas m b0 n (a : Int) (b : Int)) && keepsW (kwState m b0 n).2.1 45 (kwState m b0 n).1 [(a : Int), (b : Int)]) = true := by
      rw [e, List.mem_filter]
      exact ⟨fun h => h.2, fun h => ⟨hx, h⟩⟩
    show ((!kwHas m b0 n (a : Int) (b : Int)) && keepsW (kwState m b0 n).2.1 45 (kwState m b0 n).1 [(a : Int), (b : Int)]) = !kwHas m b0 (n + 1) (a : Int) (b : Int)
    rw [Bool.eq_iff_iff, ← hmem, Bool.not_eq_true', ← Bool.not_eq_true, hi]
    exact ⟨fun h h2 => h2 h, fun h => Classical.byContradiction h⟩
/-- How many zeros. -/
def zeros (l : List Int) : Nat := (l.filter fun x => x == 0).length
theorem zeros_snoc (l : List Int) (x : Int) : zeros (l ++ [x]) = zeros l + if x = 0 then 1 else 0 := by
  unfold zeros
  rw [List.filter_append, List.length_append, List.filter_cons, List.filter_nil]
  by_cases h : x = 0
  · rw [if_pos h, if_pos (by simp [h])]; rfl
  · rw [if_neg h, if_neg (by simpa using h)]; rfl
theorem zeros_le (l : List Int) : zeros l ≤ l.length := List.length_filter_le _ _
theorem zeros_times (m : Nat) (b0 : Bool) (hm : m ≤ 40) (n : Nat) : zeros (timesL m b0 n) = (kwState m b0 n).1.length := by
  rw [kst_filter m b0 hm n]
  unfold zeros timesL
  rw [List.filter_map, List.length_map]
  congr 1
  refine List.filter_congr fun x hx => ?_
  show (kwTime m b0 n (rd x 0) (rd x 1) == 0) = !kwHas m b0 n (rd x 0) (rd x 1)
  cases h : kwHas m b0 n (rd x 0) (rd x 1) with
  | true =>
    have := tm_pos m b0 _ _ n h
    simp; omega
  | false => rw [tm_zero m b0 _ _ n h]; rfl
def spec_CountNeverKnown.f (m : Int) (s : ByteArray) : Option (Int × Bool) := if (decide (2 ≤ m ∧ m ≤ 40) && kwWho s) = true then some (((kwState m.toNat (kwSum s) (kwEnd m.toNat (kwSum s))).1.length : Int), true) else some (0, false)
set_option maxHeartbeats 1600000 in
theorem spec_CountNeverKnown.calls (m : Int) (s : ByteArray) (r1 : Int) (r2 : Bool) (W : World) (h : spec_CountNeverKnown.f m s = some (r1, r2)) :
    Calls Try.prog 29 #[.int .i64 m, .string s] W fun e w' => e = .returned (.tuple #[.int .i64 r1, .bool r2]) ∧ Below W.heap.size W w' := by
  unfold spec_CountNeverKnown.f at h
  have HA := Aside0.mk (fun w => spec_taLimit.calls m _ w (taLimit_is m))
  have HT := Aside0.mk (fun w => spec_taWho.calls s (kwWho s) w (who_is s))
  cases hp : decide (2 ≤ m ∧ m ≤ 40) with
  | false =>
    rw [hp] at HA
    rw [hp, Bool.false_and, if_neg (by simp)] at h
    simp only [Option.some.injEq, Prod.mk.injEq] at h
    obtain ⟨rfl, rfl⟩ := h
    clear hp
    go_enter Try.func29, Try.ntmps29
    go_wp2_with (go_at_call 41; (with_reducible refine (HA.out _).mono ?_); rintro e w' ⟨rfl, ⟨nd, rfl⟩⟩)
    go_ret2
    exact ⟨rfl, pw_below_drewN (Below.refl _ _) _⟩
  | true =>
    cases ht : kwWho s with
    | false =>
      rw [hp] at HA
      rw [ht] at HT
      rw [hp, ht, if_neg (by simp)] at h
      simp only [Option.some.injEq, Prod.mk.injEq] at h
      obtain ⟨rfl, rfl⟩ := h
      clear hp ht
      go_enter Try.func29, Try.ntmps29
      go_wp2_with (first | (go_at_call 41; (with_reducible refine (HA.out _).mono ?_); rintro e w' ⟨rfl, ⟨nd, rfl⟩⟩) | (go_at_call 55; (with_reducible refine (HT.out _).mono ?_); rintro e w' ⟨rfl, ⟨nd2, rfl⟩⟩))
      go_ret2
      exact ⟨rfl, pw_below_drewN (Below.refl _ _) _⟩
    | true =>
      have hm := of_decide_eq_true hp
      have hw := who_of ht
      have HK := Aside0.mk (fun W => taTimes_calls m.toNat (by omega) (by omega) (kwSum s) W)
      have hz := zeros_times m.toNat (kwSum s) (by omega) (kwEnd m.toNat (kwSum s))
      have hll : (timesL m.toNat (kwSum s) (kwEnd m.toNat (kwSum s))).length ≤ 1640 := by
        unfold timesL
        rw [List.length_map]
        exact prs_small m.toNat (by omega)
      rw [Int.toNat_of_nonneg (by omega), ← hw] at HK
      rw [hp] at HA
      rw [ht] at HT
      rw [hp, ht, Bool.and_self, if_pos rfl] at h
      simp only [Option.some.injEq, Prod.mk.injEq] at h
      obtain ⟨rfl, rfl⟩ := h
      rw [← hz]
      obtain ⟨l, hl⟩ : ∃ l, l = timesL m.toNat (kwSum s) (kwEnd m.toNat (kwSum s)) := ⟨_, rfl⟩
      rw [← hl] at HK hll ⊢
      clear hp ht hw hm hl hz
      go_enter Try.func29, Try.ntmps29
      go_wp2_with (first | (go_at_call 41; (with_reducible refine (HA.out _).mono ?_); rintro e w' ⟨rfl, ⟨nd, rfl⟩⟩) | (go_at_call 55; (with_reducible refine (HT.out _).mono ?_); rintro e w' ⟨rfl, ⟨nd2, rfl⟩⟩) | (go_at_call 56; (with_reducible refine (HK.out _).mono ?_); rintro e w1 ⟨v1, rfl, hR, hb⟩; obtain ⟨A1, c1, rfl, q1, q2⟩ := Kd.R_reads hR; have HC := Aside0.mk q2; have HB := Aside0.mk (show Below W.heap.size W w1 from below_then (by repeat (first | exact Below.refl _ _ | apply pw_below_drewN)) (by simp) hb); clear hR hb q2))
      go_loopw [6, 21] (fun v6 v21 wr => ∃ i : Nat, i ≤ l.length ∧ v21 = .int .i64 (i : Int) ∧ v6 = .int .i64 ((zeros (l.take i) : Nat) : Int) ∧ Aside0 (Kd.C (Kd.int .i64) wr A1 l.length l) ∧ Aside0 (Below W.heap.size W wr)) (fun _ v21 _ => l.length - (intOf v21).toNat)
      case atStart => exact ⟨0, Nat.zero_le _, rfl, rfl, HC, HB⟩
      case round =>
        obtain ⟨i, hi, rfl, rfl, HC2, HB2⟩ := hrel
        have hzl := zeros_le (l.take i)
        rw [List.length_take] at hzl
        by_cases hlt : i < l.length
        · have hlt1 : decide ((i : Int) < (l.length : Int)) = true := decide_eq_true (by omega)
          obtain ⟨ad, rfl, hcell⟩ := Kd.at_int HC2.out (i : Int) (Int.natCast_nonneg _) (Int.ofNat_lt.2 hlt)
          rw [Int.toNat_natCast] at hcell
          have hri : rd l (i : Int) = l[i] := by simp [rd, List.getD, List.getElem?_eq_getElem hlt]
          rw [hri] at hcell
          have HZS := Aside0.mk (show zeros (l.take (i + 1)) = zeros (l.take i) + if l[i] = 0 then 1 else 0 by rw [List.take_succ_eq_append_getElem hlt, zeros_snoc])
          clear hri
          by_cases hz : l[i] = 0
          · rw [if_pos hz] at HZS
            rw [hz] at hcell
            clear hz
            go_wp2
            go_roundw
            case rel => exact ⟨i + 1, by omega, by go_num, by rw [HZS.out]; go_num, HC2, HB2⟩
            case measure => simp [intOf]; omega
          · rw [if_neg hz] at HZS
            have hz2 : (l[i] == 0) = false := by simpa using hz
            go_wp2
            go_roundw
            case rel => exact ⟨i + 1, by omega, by go_num, by rw [HZS.out]; rfl, HC2, HB2⟩
            case measure => simp [intOf]; omega
        · obtain rfl : i = l.length := by omega
          rw [List.take_length]
          have hlt1 : decide ((l.length : Int) < (l.length : Int)) = false := decide_eq_false (by omega)
          go_wp2
          go_ret2
          exact ⟨rfl, HB2.out⟩

end Go.Proofs.Ytofkafbcbghkeaa.E
