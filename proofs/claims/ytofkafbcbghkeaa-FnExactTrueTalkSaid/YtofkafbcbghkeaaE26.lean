-- WRITTEN by xprint.py, a program of this session that drives the kit's printer: out of the translation. Lean checks it.
import Derived.Test.YtofkafbcbghkeaaE0
import Derived.Test.YtofkafbcbghkeaaE1
import Derived.Test.YtofkafbcbghkeaaE10
import Derived.Test.YtofkafbcbghkeaaE16
import Derived.Test.YtofkafbcbghkeaaE20
import Derived.Test.YtofkafbcbghkeaaE21
import Derived.Test.YtofkafbcbghkeaaE22
import Derived.Test.YtofkafbcbghkeaaE23
import Derived.Test.YtofkafbcbghkeaaE24
import Derived.Test.YtofkafbcbghkeaaE25
import Derived.Test.YtofkafbcbghkeaaWLast
import Derived.Test.YtofkafbcbghkeaaWWords
namespace Go.Proofs.Ytofkafbcbghkeaa.E
open Go.RowKit Go.Proofs.YtofkafbcbghkeaaW.PrintWords Go.Proofs.YtofkafbcbghkeaaW.PrintLast
set_option linter.unusedVariables false
set_option linter.unusedSimpArgs false

-- OURS, BY HAND
/-! ### impl_TrueTalk: function 38 -/
-- func impl.TrueTalk
-- ext rounds=0 making=1
-- needs spec.TrueTalk
-- needs impl.knowing
-- needs impl.isPair
-- needs impl.isWho
-- import Derived.Maps.Own
-- import Derived.Maps.OwnOps
-- import Derived.Maps.OwnSet
-- import Derived.Maps.Views
-- import Derived.WideKeyArr
-- import Derived.WalkKit
-- import Derived.WalkSpells
-- import Derived.Deep.RegionWith
-- import Derived.Deep.RegionLaw
-- import Derived.IntWalk
-- seat Ytofkafbcbghkeaa
theorem tk_known (m : Nat) (b0 : Bool) (a b : Int) : kwHas m b0 (kwEnd m b0) a b = decide (0 < knownAt m b0 a b) := by
  cases h : kwHas m b0 (kwEnd m b0) a b with
  | true => exact (decide_eq_true (tm_pos m b0 a b _ h)).symm
  | false =>
    have := tm_zero m b0 a b _ h
    unfold knownAt
    rw [this]
    rfl
def impl_TrueTalk.f (m a b : Int) (s : ByteArray) : Option (ByteArray × Bool) := spec_TrueTalk.f m a b s
set_option maxHeartbeats 1600000 in
theorem impl_TrueTalk.calls (m a b : Int) (s : ByteArray) (r1 : ByteArray) (r2 : Bool) (W : World) (h : impl_TrueTalk.f m a b s = some (r1, r2)) :
    Calls Try.prog 38 #[.int .i64 m, .int .i64 a, .int .i64 b, .string s] W fun e w' => e = .returned (.tuple #[.string r1, .bool r2]) ∧ Below W.heap.size W w' := by
  unfold impl_TrueTalk.f spec_TrueTalk.f at h
  have HA := Aside0.mk (fun w => impl_isPair.calls m a b _ w (isPair_is m a b))
  have HT := Aside0.mk (fun w => impl_isWho.calls s (kwWho s) w (who_is2 s))
  cases hp : pairB m a b with
  | false =>
    rw [hp] at HA
    rw [hp, Bool.false_and, if_neg (by simp)] at h
    simp only [Option.some.injEq, Prod.mk.injEq] at h
    obtain ⟨rfl, rfl⟩ := h
    clear hp
    go_enter Try.func38, Try.ntmps38
    go_wp2_with (go_at_call 62; (with_reducible refine (HA.out _).mono ?_); rintro e w' ⟨rfl, ⟨nd, rfl⟩⟩)
    go_ret2
    exact ⟨rfl, pw_below_drewN (Below.refl _ _) _⟩
  | true =>
    cases ht : kwWho s with
    | false =>
      rw [hp] at HA
      rw [ht] at HT
      rw [hp, ht, if_neg (by simp)] at h
      simp only [Option.some.injEq, Prod.mk.injEq] at h
      obtain ⟨rfl, rfl⟩ := h
      clear hp ht
      go_enter Try.func38, Try.ntmps38
      go_wp2_with (first | (go_at_call 62; (with_reducible refine (HA.out _).mono ?_); rintro e w' ⟨rfl, ⟨nd, rfl⟩⟩) | (go_at_call 57; (with_reducible refine (HT.out _).mono ?_); rintro e w' ⟨rfl, ⟨nd2, rfl⟩⟩))
      go_ret2
      exact ⟨rfl, pw_below_drewN (Below.refl _ _) _⟩
    | true =>
      obtain ⟨hm, hab, hpr⟩ := pair_of hp
      have hw := who_of ht
      have HK := Aside0.mk (fun W => knowing_calls m.toNat (by omega) (kwSum s) W)
      rw [Int.toNat_of_nonneg (by omega), ← hw] at HK
      have HWA := Aside0.mk (show (Lit.int .i64 a).wf = true from WalkArith.wf_i64 (by omega))
      have HWB := Aside0.mk (show (Lit.int .i64 b).wf = true from WalkArith.wf_i64 (by omega))
      have HH := Aside0.mk (tk_known m.toNat (kwSum s) a b)
      have HKN := Aside0.mk (show kwTime m.toNat (kwSum s) (kwEnd m.toNat (kwSum s)) a b = knownAt m.toNat (kwSum s) a b from rfl)
      have hkw := known_wf m.toNat (kwSum s) (by omega) a b
      rw [hp] at HA
      rw [ht] at HT
      rw [hp, ht, Bool.and_self, if_pos rfl] at h
      simp only [Option.some.injEq, Prod.mk.injEq] at h
      obtain ⟨h, rfl⟩ := h
      obtain ⟨kn, hkn⟩ : ∃ kn, kn = knownAt m.toNat (kwSum s) a b := ⟨_, rfl⟩
      rw [← hkn] at HH HKN hkw h
      obtain ⟨kb, hkb⟩ : ∃ kb, kb = decide (0 < kn) := ⟨_, rfl⟩
      rw [← hkb] at HH
      have HKB := Aside0.mk hkb
      obtain ⟨tf, htf⟩ : ∃ tf, tf = kwTime m.toNat (kwSum s) (kwEnd m.toNat (kwSum s)) := ⟨_, rfl⟩
      obtain ⟨hf, hhf⟩ : ∃ hf, hf = kwHas m.toNat (kwSum s) (kwEnd m.toNat (kwSum s)) := ⟨_, rfl⟩
      rw [← htf, ← hhf] at HK
      rw [← htf] at HKN
      rw [← hhf] at HH
      obtain ⟨b0, hb0⟩ : ∃ b0, b0 = kwSum s := ⟨_, rfl⟩
      rw [← hb0] at hw h
      have HW := Aside0.mk hw
      have HR := Aside0.mk h
      have HOT := Aside0.mk other_calls
      clear hp ht hm hpr hw hkn hb0 h hkb htf hhf
      go_enter Try.func38, Try.ntmps38
      go_wp2_with (first | (go_at_call 62; (with_reducible refine (HA.out _).mono ?_); rintro e w' ⟨rfl, ⟨nd, rfl⟩⟩) | (go_at_call 57; (with_reducible refine (HT.out _).mono ?_); rintro e w' ⟨rfl, ⟨nd2, rfl⟩⟩) | (go_at_call 59; (with_reducible refine (HK.out _).mono ?_); rintro e w1 ⟨rfl, ⟨D, hown, hat, hsz⟩, hb⟩; have HB := Aside0.mk (show Below W.heap.size W w1 from below_then (pw_below_drewN (Below.refl _ _) _) (by simp) hb); have HO := Aside0.mk hown; have HAT := Aside0.mk (show D.atKey (kwLit a b) (.lit (.int .i64 0)) = .lit (.int .i64 kn) ∧ Maps.has D (kwLit a b) = kb from by have h := hat a b HWA.out HWB.out; rw [HKN.out, HH.out] at h; exact h); clear hb hown hat hsz) | (at_lookup; refine wpList_lookup_own_ok_int _ rfl _ _ 55 rfl 59 3 .i64 law59 Try.underlying55 Try.underlying3 (zero3 _) _ _ D rfl HO.out _ _ rfl (kwKey_is HWA.out HWB.out) ?_; intro c hat2 hwc; obtain rfl : kn = c := (by have e1 := HAT.out.1.symm.trans hat2; injection e1 with e1; injection e1); rw [HAT.out.2]; clear hat2 hwc))
      go_loopw [3, 12, 13] (fun v3 v12 v13 wr => ∃ i : Nat, i ≤ 12 ∧ v13 = .int .i64 ((i + 1 : Nat) : Int) ∧ v3 = .string (whoB (tkWho b0 i)) ∧ v12 = .string (tkOut b0 i) ∧ (∀ j, j < i → kn ≠ ((j + 1 : Nat) : Int)) ∧ Aside0 (Below W.heap.size W wr)) (fun _ _ v13 _ => 13 - (intOf v13).toNat)
      case atStart => exact ⟨0, by omega, by go_num, by rw [HW.out]; rfl, rfl, fun j hj => absurd hj (Nat.not_lt_zero _), HB⟩
      case round =>
        obtain ⟨i, hi, rfl, rfl, rfl, hj, HB2⟩ := hrel
        have hsz := tkOut_size b0 i
        have hs1 : (whoB (tkWho b0 i)).size = 1 := by cases tkWho b0 i <;> rfl
        have hd1 : (ByteArray.mk #[45]).size = 1 := rfl
        have hd2 : (ByteArray.mk #[43]).size = 1 := rfl
        have HTK := Aside0.mk (show tkOut b0 (i + 1) = tkOut b0 i ++ (whoB (tkWho b0 i) ++ ⟨#[45]⟩) from rfl)
        have hws := who_s (tkWho b0 i)
        have HTW := Aside0.mk (show tkWho b0 (i + 1) = !tkWho b0 i from rfl)
        have HJ := Aside0.mk hj
        have HOR := Aside0.mk (show ∀ t, t = tkOut b0 i → kn = ((i + 1 : Nat) : Int) → i < 12 → tkTalk b0 kn = t ++ whoB (tkWho b0 i) ++ ⟨#[43]⟩ from fun t ht hk hi2 => by
          unfold tkTalk
          rw [if_pos (by omega), hk, ht]
          rfl)
        have HOC := Aside0.mk (HOT.out (tkWho b0 i))
        have HNW := Aside0.mk (show tkWho b0 (i + 1) = !tkWho b0 i from rfl)
        obtain ⟨o, ho⟩ : ∃ o, o = tkOut b0 i := ⟨_, rfl⟩
        obtain ⟨wb, hwb⟩ : ∃ wb, wb = tkWho b0 i := ⟨_, rfl⟩
        obtain ⟨who, hwho⟩ : ∃ who, who = whoB wb := ⟨_, rfl⟩
        have HOO := Aside0.mk ho
        rw [← ho] at hsz HTK ⊢
        rw [← hwb] at hs1 HTK hws HTW HOR HOC ⊢
        rw [← hwho] at hs1 HTK hws HOR HOC ⊢
        clear ho hwb hwho hj
        have hadd1 : ∀ w, (Op.stringOp .add who ⟨#[45]⟩).run Try.prog w = .ok (.string (who ++ ⟨#[45]⟩)) w := fun w => run_string_add_sum _ _ _ (by rw [hs1, hd1]; omega)
        have hadd2 : ∀ w, (Op.stringOp .add o (who ++ ⟨#[45]⟩)).run Try.prog w = .ok (.string (o ++ (who ++ ⟨#[45]⟩))) w := fun w => run_string_add_sum _ _ _ (by rw [ByteArray.size_append, hs1, hd1]; omega)
        have hadd3 : ∀ w, (Op.stringOp .add o who).run Try.prog w = .ok (.string (o ++ who)) w := fun w => run_string_add_sum _ _ _ (by rw [hs1]; omega)
        have hadd4 : ∀ w, (Op.stringOp .add (o ++ who) ⟨#[43]⟩).run Try.prog w = .ok (.string (o ++ who ++ ⟨#[43]⟩)) w := fun w => run_string_add_sum _ _ _ (by rw [ByteArray.size_append, hs1, hd2]; omega)
        have hkt := HKB.out
        by_cases hlt : i < 12
        · have hlt1 : decide (((i : Int) + 1) ≤ 12) = true := decide_eq_true (by omega)
          by_cases hz : kn = ((i + 1 : Nat) : Int)
          · have hz2 : ((i : Int) + 1 == kn) = true := by rw [hz]; simp
            obtain rfl : o ++ who ++ ⟨#[43]⟩ = r1 := (HOR.out o HOO.out hz hlt).symm.trans HR.out
            obtain rfl : kb = true := by rw [hkt]; exact decide_eq_true (by omega)
            clear hz HOR hkt
            go_wp2
            go_ret2
            exact ⟨rfl, HB2.out⟩
          · have hz2 : ((i : Int) + 1 == kn) = false := by simp; omega
            have HJ2 := Aside0.mk (show ∀ j, j < i + 1 → kn ≠ ((j + 1 : Nat) : Int) from fun j hj => by
              by_cases e : j = i
              · rw [e]; exact hz
              · exact HJ.out j (by omega))
            clear hz HOR hkt
            cases kb with
            | true =>
              go_wp2_with (go_at_call 65; (with_reducible refine (HOC.out _).mono ?_); rintro e w' ⟨rfl, rfl⟩)
              go_roundw
              case rel => exact ⟨i + 1, by omega, by go_num, by rw [HTW.out], by rw [HTK.out], HJ2.out, HB2⟩
              case measure => simp [intOf]; omega
            | false =>
              go_wp2_with (go_at_call 65; (with_reducible refine (HOC.out _).mono ?_); rintro e w' ⟨rfl, rfl⟩)
              go_roundw
              case rel => exact ⟨i + 1, by omega, by go_num, by rw [HTW.out], by rw [HTK.out], HJ2.out, HB2⟩
              case measure => simp [intOf]; omega
        · obtain rfl : i = 12 := by omega
          have hfin : tkTalk b0 kn = o := by
            unfold tkTalk
            rw [if_neg, HOO.out]
            intro h
            exact HJ.out (kn.toNat - 1) (by omega) (by omega)
          obtain rfl : o = r1 := hfin.symm.trans HR.out
          clear hfin hkt
          go_wp2
          go_ret2
          exact ⟨rfl, HB2.out⟩

end Go.Proofs.Ytofkafbcbghkeaa.E
