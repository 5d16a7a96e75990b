-- WRITTEN by xprint.py, a program of this session that drives the kit's printer: out of the translation. Lean checks it.
import Derived.Test.YtofkafbcbghkeaaE0
import Derived.Test.YtofkafbcbghkeaaE8
import Derived.Test.YtofkafbcbghkeaaE10
import Derived.Test.YtofkafbcbghkeaaE14
import Derived.Test.YtofkafbcbghkeaaE18
import Derived.Test.YtofkafbcbghkeaaE19
import Derived.Test.YtofkafbcbghkeaaE20
import Derived.Test.YtofkafbcbghkeaaE21
import Derived.Test.YtofkafbcbghkeaaE22
import Derived.Test.YtofkafbcbghkeaaWLast
import Derived.Test.YtofkafbcbghkeaaWWords
namespace Go.Proofs.Ytofkafbcbghkeaa.E
open Go.RowKit Go.Proofs.YtofkafbcbghkeaaW.PrintWords Go.Proofs.YtofkafbcbghkeaaW.PrintLast
set_option linter.unusedVariables false
set_option linter.unusedSimpArgs false

-- OURS, BY HAND
/-! ### spec_taKnown: function 61 -/
-- func spec.taKnown
-- ext raw=1
-- needs impl.knowing
-- needs spec.taSay
-- needs spec.taLeft
-- needs spec.taHas
-- needs spec.IsTrueTalk
-- import Derived.Maps.Own
-- import Derived.Maps.OwnOps
-- import Derived.Maps.OwnSet
-- import Derived.Maps.Views
-- import Derived.WideKeyArr
-- import Derived.WalkKit
-- import Derived.WalkSpells
-- import Derived.Deep.RegionWith
-- import Derived.Deep.RegionLaw
-- import Derived.IntWalk
-- seat Ytofkafbcbghkeaa
theorem has_mem (xs : List (List Int)) (ha : ∀ x ∈ xs, Ages x) (a b : Int) : hasPair xs a b = true ↔ [a, b] ∈ xs := by
  unfold hasPair
  rw [List.any_eq_true]
  constructor
  · rintro ⟨x, hx, h⟩
    obtain ⟨c, d, _, _, _, rfl⟩ := ha x hx
    obtain ⟨h1, h2⟩ := Bool.and_eq_true_iff.1 h
    have e1 : (c : Int) = a := beq_iff_eq.1 h1
    have e2 : (d : Int) = b := beq_iff_eq.1 h2
    rw [← e1, ← e2]
    exact hx
  · intro h
    exact ⟨_, h, by simp [rd]⟩
theorem who_s (b : Bool) : ((whoB b).toList == [115]) = b := by cases b <;> decide +kernel
/-- Behind how many statements somebody knows a pair; 0 if nobody ever does. -/
def knownAt (m : Nat) (b0 : Bool) (a b : Int) : Int := kwTime m b0 (kwEnd m b0) a b
theorem endN_gt (m : Nat) (b0 : Bool) (n : Nat) (h : ∀ j, j < n → (kwState m b0 j).2.2 < 2) : n ≤ kwEnd m b0 := by
  have he := endN_is m b0
  by_cases hlt : kwEnd m b0 < n
  · have := h _ hlt; have := he.1; omega
  · omega
theorem known_out (m : Nat) (b0 : Bool) (a b : Int) (n : Nat) (hj : ∀ j, j < n + 1 → (kwState m b0 j).2.2 < 2) (h1 : [a, b] ∈ (kwState m b0 n).1) (h2 : [a, b] ∉ (kwState m b0 (n + 1)).1) : knownAt m b0 a b = ((n + 1 : Nat) : Int) := by
  have hle := endN_gt m b0 (n + 1) hj
  have h3 := (tm_still m b0 a b (n + 1) h2 (kwEnd m b0 - (n + 1))).2
  rw [show n + 1 + (kwEnd m b0 - (n + 1)) = kwEnd m b0 by omega] at h3
  unfold knownAt
  rw [h3]
  have hp := (plus_out m b0 n _ h1).2 h2
  show (if (kwPlus m b0 n).contains [a, b] = true then ((n + 1 : Nat) : Int) else kwTime m b0 n a b) = _
  rw [if_pos (List.contains_iff_mem.2 hp)]
theorem known_never (m : Nat) (b0 : Bool) (a b : Int) (hp : [a, b] ∈ prs m m) (n : Nat) (hn : kwEnd m b0 = n) (h : [a, b] ∈ (kwState m b0 n).1) : knownAt m b0 a b = 0 := by
  unfold knownAt
  rw [hn]
  refine tm_zero m b0 a b n ?_
  cases hh : kwHas m b0 n a b with
  | false => rfl
  | true => exact absurd h ((kwHas_iff m b0 a b hp n).1 hh)
set_option maxHeartbeats 8000000 in
set_option maxRecDepth 100000 in
theorem taKnown_calls (m : Nat) (hm : m ≤ 40) (b0 : Bool) (pa pb : Int) (hp : [pa, pb] ∈ prs m m) (W : World) :
    Calls Try.prog 61 #[.int .i64 m, .int .i64 pa, .int .i64 pb, .string (whoB b0)] W fun e w' => e = .returned (.int .i64 (knownAt m b0 pa pb)) ∧ Below W.heap.size W w' := by
  have HP := Aside0.mk (fun W => taPairs_calls m hm W)
  have HSA := Aside0.mk (fun (b : Bool) A c xs W hC hc ha hn => taSay_calls b 45 (.inl rfl) A c xs W hC hc ha hn)
  have hsm := prs_small m hm
  have HAG := Aside0.mk (fun n x (h : x ∈ (kwState m b0 n).1) => prs_ages m m hm (Nat.le_refl _) x (kst_sub m b0 n x h))
  have HPR := Aside0.mk hp
  obtain ⟨who, hwho⟩ : ∃ who, who = whoB b0 := ⟨_, rfl⟩
  rw [← hwho]
  have HWHO := Aside0.mk hwho
  clear hwho hp
  go_enter Try.func61, Try.ntmps61
  go_wp2_with (go_at_call 42; (with_reducible refine (HP.out _).mono ?_); rintro e w1 ⟨A1, c1, rfl, q1, hC, hb⟩; have HC1 := Aside0.mk hC; have HB1 := Aside0.mk hb; clear hC hb)
  go_loopw [3, 9, 10, 11] (fun v3 v9 v10 v11 wr => ∃ (n : Nat) (A : Option Addr) (c : Nat), v3 = .string (whoB (kwState m b0 n).2.1) ∧ v9 = .slice A (kwState m b0 n).1.length c ∧ (kwState m b0 n).1.length ≤ c ∧ v10 = .int .i64 ((kwState m b0 n).2.2 : Int) ∧ v11 = .int .i64 ((n + 1 : Nat) : Int) ∧ (∀ j, j < n + 1 → (kwState m b0 j).2.2 < 2) ∧ [pa, pb] ∈ (kwState m b0 n).1 ∧ Aside0 (Kd.C (Kd.slice 3 (Kd.int .i64)) wr A (kwState m b0 n).1.length (kwState m b0 n).1) ∧ Aside0 (Below W.heap.size W wr)) (fun _ v9 v10 _ _ => 3 * sliceLen v9 + 2 - (intOf v10).toNat)
  case atStart => exact ⟨0, A1, c1, by rw [HWHO.out]; rfl, rfl, q1, rfl, by go_num, (fun j hj => by (obtain rfl : j = 0 := by omega); exact Nat.zero_lt_two), HPR.out, HC1, HB1⟩
  case round =>
    obtain ⟨n, A, c, rfl, rfl, hcc, rfl, rfl, hj, hpn, HC, HB⟩ := hrel
    have hl := kst_len m b0 n
    have hnb : n ≤ 5000 := by have := kwGoes_up m b0 hm n (fun j h => hj j (by omega)); omega
    have hst : (kwState m b0 n).2.2 < 2 := hj n (by omega)
    have HBM := Aside0.mk (fun W1 h => HSA.out (kwState m b0 n).2.1 A c (kwState m b0 n).1 W1 h hcc (HAG.out n) (by omega))
    obtain ⟨K, hK⟩ := has_is (kwState m b0 (n + 1)).1 (HAG.out (n + 1)) (by have := kst_len m b0 (n + 1); omega) pa pb
    have HHJ := Aside0.mk hj
    have HPN := Aside0.mk hpn
    have hws := who_s (kwState m b0 n).2.1
    obtain ⟨xs, hxs⟩ : ∃ xs, xs = (kwState m b0 n).1 := ⟨_, rfl⟩
    obtain ⟨wb, hwb⟩ : ∃ wb, wb = whoB (kwState m b0 n).2.1 := ⟨_, rfl⟩
    obtain ⟨sn, hsn⟩ : ∃ sn, sn = (kwState m b0 n).2.2 := ⟨_, rfl⟩
    obtain ⟨sb, hsb⟩ : ∃ sb, sb = (kwState m b0 n).2.1 := ⟨_, rfl⟩
    obtain ⟨ys, hys⟩ : ∃ ys, ys = (kwState m b0 (n + 1)).1 := ⟨_, rfl⟩
    have e2 : xs.filter (keepsW (kwState m b0 n).2.1 45 xs) = ys := by rw [hxs, hys]; rfl
    have hly : ys.length ≤ xs.length := by rw [hys, hxs]; exact List.length_filter_le _ _
    have e7 : (kwState m b0 (n + 1)).2.2 = if ys.length < xs.length then 0 else sn + 1 := by rw [hys, hxs, hsn]; rfl
    rw [← hxs] at HBM
    rw [e2] at HBM
    rw [← hwb] at HBM hws
    rw [← hsb] at hws
    rw [← hys] at hK
    have HXS := Aside0.mk hxs
    have HWB := Aside0.mk hwb
    have HSN := Aside0.mk hsn
    have HSB := Aside0.mk hsb
    have HYS := Aside0.mk hys
    have HTH := Aside0.mk (fun A c w (h : Kd.C (Kd.slice 3 (Kd.int .i64)) w A ys.length ys) h1 => spec_taHas.calls K A c ys pa pb (hasPair ys pa pb) w h h1 hK)
    have HMEM := Aside0.mk (has_mem ys (by rw [hys]; exact HAG.out (n + 1)) pa pb)
    rw [← hxs] at HC
    rw [← hxs, ← hwb, ← hsn]
    have hst2 : sn < 2 := by rw [hsn]; exact hst
    clear e2 hxs hwb hsn hsb hys hK hj hpn hl hst
    cases hh : hasPair ys pa pb with
    | false =>
      rw [hh] at HTH
      have HNH := Aside0.mk hh
      clear hh e7
      go_wp2_with (first | (go_at_call 69; (with_reducible refine (HBM.out _ HC.out).mono ?_); rintro e w4 ⟨A3, c3, rfl, q3, hC3, hb3⟩; have HC3 := Aside0.mk hC3; have HB4 := Aside0.mk hb3; clear hC3 hb3) | (go_at_call 63; (with_reducible refine (HTH.out _ _ _ HC3.out q3).mono ?_); rintro e w5 ⟨rfl, ⟨n5, rfl⟩⟩))
      go_ret
      have hout : [pa, pb] ∉ (kwState m b0 (n + 1)).1 := by
        intro h
        have := HMEM.out.2 (by rw [HYS.out]; exact h)
        rw [HNH.out] at this
        cases this
      rw [known_out m b0 pa pb n HHJ.out HPN.out hout]
      exact ⟨rfl, pw_below_drewN (below_step HB.out HB4.out) _⟩
    | true =>
      rw [hh] at HTH
      have HIN := Aside0.mk (show [pa, pb] ∈ (kwState m b0 (n + 1)).1 by rw [← HYS.out]; exact HMEM.out.1 hh)
      clear hh
      have HE8 := Aside0.mk (show (kwState m b0 (n + 1)).2.1 = !sb by rw [HSB.out]; rfl)
      by_cases hsh : ys.length < xs.length
      · rw [if_pos hsh] at e7
        have hd1 : ((ys.length : Int) != (xs.length : Int)) = true := by simp; omega
        have HE7 := Aside0.mk e7
        clear e7
        cases sb with
        | true =>
          go_wp2_with (first | (go_at_call 69; (with_reducible refine (HBM.out _ HC.out).mono ?_); rintro e w4 ⟨A3, c3, rfl, q3, hC3, hb3⟩; have HC3 := Aside0.mk hC3; have HB4 := Aside0.mk hb3; clear hC3 hb3) | (go_at_call 63; (with_reducible refine (HTH.out _ _ _ HC3.out q3).mono ?_); rintro e w5 ⟨rfl, ⟨n5, rfl⟩⟩))
          go_roundw
          case rel =>
            refine ⟨n + 1, A3, c3, by rw [HE8.out]; rfl, by rw [← HYS.out], by rw [← HYS.out]; exact q3, by rw [HE7.out]; rfl, by go_num, fun j hj => ?_, HIN.out, ⟨by rw [← HYS.out]; exact Kd.C_drewN HC3.out _⟩, ⟨pw_below_drewN (below_step HB.out HB4.out) _⟩⟩
            by_cases e : j = n + 1
            · rw [e, HE7.out]; decide
            · exact HHJ.out j (by omega)
          case measure => simp [intOf, sliceLen]; omega
        | false =>
          go_wp2_with (first | (go_at_call 69; (with_reducible refine (HBM.out _ HC.out).mono ?_); rintro e w4 ⟨A3, c3, rfl, q3, hC3, hb3⟩; have HC3 := Aside0.mk hC3; have HB4 := Aside0.mk hb3; clear hC3 hb3) | (go_at_call 63; (with_reducible refine (HTH.out _ _ _ HC3.out q3).mono ?_); rintro e w5 ⟨rfl, ⟨n5, rfl⟩⟩))
          go_roundw
          case rel =>
            refine ⟨n + 1, A3, c3, by rw [HE8.out]; rfl, by rw [← HYS.out], by rw [← HYS.out]; exact q3, by rw [HE7.out]; rfl, by go_num, fun j hj => ?_, HIN.out, ⟨by rw [← HYS.out]; exact Kd.C_drewN HC3.out _⟩, ⟨pw_below_drewN (below_step HB.out HB4.out) _⟩⟩
            by_cases e : j = n + 1
            · rw [e, HE7.out]; decide
            · exact HHJ.out j (by omega)
          case measure => simp [intOf, sliceLen]; omega
      · rw [if_neg hsh] at e7
        have hd1 : ((ys.length : Int) != (xs.length : Int)) = false := by simp; omega
        have HE7 := Aside0.mk e7
        clear e7
        by_cases h1 : sn = 1
        · subst h1
          have hend : kwEnd m b0 = n + 1 := KwEnds.one (endN_is m b0) ⟨by rw [HE7.out]; exact Nat.le_refl _, HHJ.out⟩
          have HEND := Aside0.mk hend
          clear hend
          go_wp2_with (first | (go_at_call 69; (with_reducible refine (HBM.out _ HC.out).mono ?_); rintro e w4 ⟨A3, c3, rfl, q3, hC3, hb3⟩; have HC3 := Aside0.mk hC3; have HB4 := Aside0.mk hb3; clear hC3 hb3) | (go_at_call 63; (with_reducible refine (HTH.out _ _ _ HC3.out q3).mono ?_); rintro e w5 ⟨rfl, ⟨n5, rfl⟩⟩))
          go_ret
          rw [known_never m b0 pa pb HPR.out (n + 1) HEND.out HIN.out]
          exact ⟨rfl, pw_below_drewN (below_step HB.out HB4.out) _⟩
        · obtain rfl : sn = 0 := by omega
          cases sb with
          | true =>
            go_wp2_with (first | (go_at_call 69; (with_reducible refine (HBM.out _ HC.out).mono ?_); rintro e w4 ⟨A3, c3, rfl, q3, hC3, hb3⟩; have HC3 := Aside0.mk hC3; have HB4 := Aside0.mk hb3; clear hC3 hb3) | (go_at_call 63; (with_reducible refine (HTH.out _ _ _ HC3.out q3).mono ?_); rintro e w5 ⟨rfl, ⟨n5, rfl⟩⟩))
            go_roundw
            case rel =>
              refine ⟨n + 1, A3, c3, by rw [HE8.out]; rfl, by rw [← HYS.out], by rw [← HYS.out]; exact q3, by rw [HE7.out]; rfl, by go_num, fun j hj => ?_, HIN.out, ⟨by rw [← HYS.out]; exact Kd.C_drewN HC3.out _⟩, ⟨pw_below_drewN (below_step HB.out HB4.out) _⟩⟩
              by_cases e : j = n + 1
              · rw [e, HE7.out]; decide
              · exact HHJ.out j (by omega)
            case measure => simp [intOf, sliceLen]; omega
          | false =>
            go_wp2_with (first | (go_at_call 69; (with_reducible refine (HBM.out _ HC.out).mono ?_); rintro e w4 ⟨A3, c3, rfl, q3, hC3, hb3⟩; have HC3 := Aside0.mk hC3; have HB4 := Aside0.mk hb3; clear hC3 hb3) | (go_at_call 63; (with_reducible refine (HTH.out _ _ _ HC3.out q3).mono ?_); rintro e w5 ⟨rfl, ⟨n5, rfl⟩⟩))
            go_roundw
            case rel =>
              refine ⟨n + 1, A3, c3, by rw [HE8.out]; rfl, by rw [← HYS.out], by rw [← HYS.out]; exact q3, by rw [HE7.out]; rfl, by go_num, fun j hj => ?_, HIN.out, ⟨by rw [← HYS.out]; exact Kd.C_drewN HC3.out _⟩, ⟨pw_below_drewN (below_step HB.out HB4.out) _⟩⟩
              by_cases e : j = n + 1
              · rw [e, HE7.out]; decide
              · exact HHJ.out j (by omega)
            case measure => simp [intOf, sliceLen]; omega

end Go.Proofs.Ytofkafbcbghkeaa.E
