-- WRITTEN by xprint.py, a program of this session that drives the kit's printer: out of the translation. Lean checks it.
import Derived.Test.YtofkafbcbghkeaaE0
import Derived.Test.YtofkafbcbghkeaaE1
import Derived.Test.YtofkafbcbghkeaaE10
import Derived.Test.YtofkafbcbghkeaaE14
import Derived.Test.YtofkafbcbghkeaaE16
import Derived.Test.YtofkafbcbghkeaaE17
import Derived.Test.YtofkafbcbghkeaaE21
import Derived.Test.YtofkafbcbghkeaaE23
import Derived.Test.YtofkafbcbghkeaaE24
import Derived.Test.YtofkafbcbghkeaaWLast
import Derived.Test.YtofkafbcbghkeaaWWords
namespace Go.Proofs.Ytofkafbcbghkeaa.E
open Go.RowKit Go.Proofs.YtofkafbcbghkeaaW.PrintWords Go.Proofs.YtofkafbcbghkeaaW.PrintLast
set_option linter.unusedVariables false
set_option linter.unusedSimpArgs false

-- OURS, BY HAND
/-! ### spec_TrueTalk: function 37 -/
-- func spec.TrueTalk
-- ext rounds=0 making=1
-- needs spec.taKnown
-- needs spec.taPair
-- needs spec.taWho
-- needs spec.KnownAfter
-- import Derived.Maps.Own
-- import Derived.Maps.OwnOps
-- import Derived.Maps.OwnSet
-- import Derived.Maps.Views
-- import Derived.WideKeyArr
-- import Derived.WalkKit
-- import Derived.WalkSpells
-- import Derived.Deep.RegionWith
-- import Derived.Deep.RegionLaw
-- import Derived.IntWalk
-- seat Ytofkafbcbghkeaa
/-- Whose turn it is behind so many statements. -/
def tkWho (b : Bool) : Nat → Bool
  | 0 => b
  | i + 1 => !tkWho b i
/-- What was said behind so many statements, all of them 'no'. -/
def tkOut (b : Bool) : Nat → ByteArray
  | 0 => ⟨#[]⟩
  | i + 1 => tkOut b i ++ (whoB (tkWho b i) ++ ⟨#[45]⟩)
theorem tkOut_size (b : Bool) : ∀ i, (tkOut b i).size ≤ 2 * i
  | 0 => Nat.le_refl _
  | i + 1 => by
    have ih := tkOut_size b i
    have h1 : (whoB (tkWho b i)).size = 1 := by cases tkWho b i <;> rfl
    have h2 : (ByteArray.mk #[45]).size = 1 := rfl
    show (tkOut b i ++ (whoB (tkWho b i) ++ ⟨#[45]⟩)).size ≤ _
    rw [ByteArray.size_append, ByteArray.size_append, h1, h2]
    omega
/-- The talk in which a pair is known behind so many statements. -/
def tkTalk (b : Bool) (kn : Int) : ByteArray := if 1 ≤ kn ∧ kn ≤ 12 then tkOut b (kn.toNat - 1) ++ whoB (tkWho b (kn.toNat - 1)) ++ ⟨#[43]⟩ else tkOut b 12
def spec_TrueTalk.f (m a b : Int) (s : ByteArray) : Option (ByteArray × Bool) := if (pairB m a b && kwWho s) = true then some (tkTalk (kwSum s) (knownAt m.toNat (kwSum s) a b), true) else some (⟨#[]⟩, false)
set_option maxHeartbeats 1600000 in
theorem spec_TrueTalk.calls (m a b : Int) (s : ByteArray) (r1 : ByteArray) (r2 : Bool) (W : World) (h : spec_TrueTalk.f m a b s = some (r1, r2)) :
    Calls Try.prog 37 #[.int .i64 m, .int .i64 a, .int .i64 b, .string s] W fun e w' => e = .returned (.tuple #[.string r1, .bool r2]) ∧ Below W.heap.size W w' := by
  unfold spec_TrueTalk.f at h
  have HA := Aside0.mk (fun w => spec_taPair.calls m a b _ w (taPair_is m a b))
  have HT := Aside0.mk (fun w => spec_taWho.calls s (kwWho s) w (who_is s))
  cases hp : pairB m a b with
  | false =>
    rw [hp] at HA
    rw [hp, Bool.false_and, if_neg (by simp)] at h
    simp only [Option.some.injEq, Prod.mk.injEq] at h
    obtain ⟨rfl, rfl⟩ := h
    clear hp
    go_enter Try.func37, Try.ntmps37
    go_wp2_with (go_at_call 60; (with_reducible refine (HA.out _).mono ?_); rintro e w' ⟨rfl, ⟨nd, rfl⟩⟩)
    go_ret2
    exact ⟨rfl, pw_below_drewN (Below.refl _ _) _⟩
  | true =>
    cases ht : kwWho s with
    | false =>
      rw [hp] at HA
      rw [ht] at HT
      rw [hp, ht, if_neg (by simp)] at h
      simp only [Option.some.injEq, Prod.mk.injEq] at h
      obtain ⟨rfl, rfl⟩ := h
      clear hp ht
      go_enter Try.func37, Try.ntmps37
      go_wp2_with (first | (go_at_call 60; (with_reducible refine (HA.out _).mono ?_); rintro e w' ⟨rfl, ⟨nd, rfl⟩⟩) | (go_at_call 55; (with_reducible refine (HT.out _).mono ?_); rintro e w' ⟨rfl, ⟨nd2, rfl⟩⟩))
      go_ret2
      exact ⟨rfl, pw_below_drewN (Below.refl _ _) _⟩
    | true =>
      obtain ⟨hm, hab, hpr⟩ := pair_of hp
      have hw := who_of ht
      have HK := Aside0.mk (fun W => taKnown_calls m.toNat (by omega) (kwSum s) a b hpr W)
      rw [Int.toNat_of_nonneg (by omega), ← hw] at HK
      have hkw := known_wf m.toNat (kwSum s) (by omega) a b
      rw [hp] at HA
      rw [ht] at HT
      rw [hp, ht, Bool.and_self, if_pos rfl] at h
      simp only [Option.some.injEq, Prod.mk.injEq] at h
      obtain ⟨h, rfl⟩ := h
      obtain ⟨kn, hkn⟩ : ∃ kn, kn = knownAt m.toNat (kwSum s) a b := ⟨_, rfl⟩
      rw [← hkn] at HK hkw h
      obtain ⟨b0, hb0⟩ : ∃ b0, b0 = kwSum s := ⟨_, rfl⟩
      rw [← hb0] at hw h
      have HW := Aside0.mk hw
      have HR := Aside0.mk h
      clear hp ht hm hpr hw hkn hb0 h
      go_enter Try.func37, Try.ntmps37
      go_wp2_with (first | (go_at_call 60; (with_reducible refine (HA.out _).mono ?_); rintro e w' ⟨rfl, ⟨nd, rfl⟩⟩) | (go_at_call 55; (with_reducible refine (HT.out _).mono ?_); rintro e w' ⟨rfl, ⟨nd2, rfl⟩⟩) | (go_at_call 61; (with_reducible refine (HK.out _).mono ?_); rintro e w1 ⟨rfl, hb⟩; have HB := Aside0.mk (show Below W.heap.size W w1 from below_then (pw_below_drewN (Below.refl _ _) _) (by simp) hb); clear hb))
      go_loopw [3, 11, 12] (fun v3 v11 v12 wr => ∃ i : Nat, i ≤ 12 ∧ v12 = .int .i64 ((i + 1 : Nat) : Int) ∧ v3 = .string (whoB (tkWho b0 i)) ∧ v11 = .string (tkOut b0 i) ∧ (∀ j, j < i → kn ≠ ((j + 1 : Nat) : Int)) ∧ Aside0 (Below W.heap.size W wr)) (fun _ _ v12 _ => 13 - (intOf v12).toNat)
      case atStart => exact ⟨0, by omega, by go_num, by rw [HW.out]; rfl, rfl, fun j hj => absurd hj (Nat.not_lt_zero _), HB⟩
      case round =>
        obtain ⟨i, hi, rfl, rfl, rfl, hj, HB2⟩ := hrel
        have hsz := tkOut_size b0 i
        have hs1 : (whoB (tkWho b0 i)).size = 1 := by cases tkWho b0 i <;> rfl
        have hd1 : (ByteArray.mk #[45]).size = 1 := rfl
        have hd2 : (ByteArray.mk #[43]).size = 1 := rfl
        have HTK := Aside0.mk (show tkOut b0 (i + 1) = tkOut b0 i ++ (whoB (tkWho b0 i) ++ ⟨#[45]⟩) from rfl)
        have hws := who_s (tkWho b0 i)
        have HTW := Aside0.mk (show tkWho b0 (i + 1) = !tkWho b0 i from rfl)
        have HJ := Aside0.mk hj
        have HO := Aside0.mk (show ∀ t, t = tkOut b0 i → kn = ((i + 1 : Nat) : Int) → i < 12 → tkTalk b0 kn = t ++ whoB (tkWho b0 i) ++ ⟨#[43]⟩ from fun t ht hk hi2 => by
          unfold tkTalk
          rw [if_pos (by omega), hk, ht]
          rfl)
        obtain ⟨o, ho⟩ : ∃ o, o = tkOut b0 i := ⟨_, rfl⟩
        obtain ⟨wb, hwb⟩ : ∃ wb, wb = tkWho b0 i := ⟨_, rfl⟩
        obtain ⟨who, hwho⟩ : ∃ who, who = whoB wb := ⟨_, rfl⟩
        have HOO := Aside0.mk ho
        rw [← ho] at hsz HTK ⊢
        rw [← hwb] at hs1 HTK hws HTW HO ⊢
        rw [← hwho] at hs1 HTK hws HO ⊢
        clear ho hwb hwho hj
        have hadd1 : ∀ w, (Op.stringOp .add who ⟨#[45]⟩).run Try.prog w = .ok (.string (who ++ ⟨#[45]⟩)) w := fun w => run_string_add_sum _ _ _ (by rw [hs1, hd1]; omega)
        have hadd2 : ∀ w, (Op.stringOp .add o (who ++ ⟨#[45]⟩)).run Try.prog w = .ok (.string (o ++ (who ++ ⟨#[45]⟩))) w := fun w => run_string_add_sum _ _ _ (by rw [ByteArray.size_append, hs1, hd1]; omega)
        have hadd3 : ∀ w, (Op.stringOp .add o who).run Try.prog w = .ok (.string (o ++ who)) w := fun w => run_string_add_sum _ _ _ (by rw [hs1]; omega)
        have hadd4 : ∀ w, (Op.stringOp .add (o ++ who) ⟨#[43]⟩).run Try.prog w = .ok (.string (o ++ who ++ ⟨#[43]⟩)) w := fun w => run_string_add_sum _ _ _ (by rw [ByteArray.size_append, hs1, hd2]; omega)
        by_cases hlt : i < 12
        · have hlt1 : decide (((i : Int) + 1) ≤ 12) = true := decide_eq_true (by omega)
          by_cases hz : kn = ((i + 1 : Nat) : Int)
          · have hz2 : ((i : Int) + 1 == kn) = true := by rw [hz]; simp
            obtain rfl : o ++ who ++ ⟨#[43]⟩ = r1 := (HO.out o HOO.out hz hlt).symm.trans HR.out
            clear hz HO
            go_wp2
            go_ret2
            exact ⟨rfl, HB2.out⟩
          · have hz2 : ((i : Int) + 1 == kn) = false := by simp; omega
            have HJ2 := Aside0.mk (show ∀ j, j < i + 1 → kn ≠ ((j + 1 : Nat) : Int) from fun j hj => by
              by_cases e : j = i
              · rw [e]; exact hz
              · exact HJ.out j (by omega))
            clear hz HO
            cases wb with
            | true =>
              go_wp2
              go_roundw
              case rel => exact ⟨i + 1, by omega, by go_num, by rw [HTW.out]; rfl, by rw [HTK.out], HJ2.out, HB2⟩
              case measure => simp [intOf]; omega
            | false =>
              go_wp2
              go_roundw
              case rel => exact ⟨i + 1, by omega, by go_num, by rw [HTW.out]; rfl, by rw [HTK.out], HJ2.out, HB2⟩
              case measure => simp [intOf]; omega
        · obtain rfl : i = 12 := by omega
          have hfin : tkTalk b0 kn = o := by
            unfold tkTalk
            rw [if_neg, HOO.out]
            intro h
            exact HJ.out (kn.toNat - 1) (by omega) (by omega)
          obtain rfl : o = r1 := hfin.symm.trans HR.out
          clear hfin
          go_wp2
          go_ret2
          exact ⟨rfl, HB2.out⟩

end Go.Proofs.Ytofkafbcbghkeaa.E
