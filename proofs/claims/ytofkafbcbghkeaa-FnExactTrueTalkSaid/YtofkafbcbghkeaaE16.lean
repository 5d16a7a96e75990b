-- WRITTEN by xprint.py, a program of this session that drives the kit's printer: out of the translation. Lean checks it.
import Derived.Test.YtofkafbcbghkeaaE0
import Derived.Test.YtofkafbcbghkeaaE1
import Derived.Test.YtofkafbcbghkeaaE2
import Derived.Test.YtofkafbcbghkeaaE3
import Derived.Test.YtofkafbcbghkeaaE8
import Derived.Test.YtofkafbcbghkeaaE10
import Derived.Test.YtofkafbcbghkeaaE15
import Derived.Test.YtofkafbcbghkeaaWLast
import Derived.Test.YtofkafbcbghkeaaWWords
namespace Go.Proofs.Ytofkafbcbghkeaa.E
open Go.RowKit Go.Proofs.YtofkafbcbghkeaaW.PrintWords Go.Proofs.YtofkafbcbghkeaaW.PrintLast
set_option linter.unusedVariables false
set_option linter.unusedSimpArgs false

-- OURS, BY HAND
/-! ### impl_PairsLeft: function 54 -/
-- func impl.PairsLeft
-- ext raw=1
-- needs impl.left
-- needs spec.taTalk
-- needs spec.taWho
-- needs impl.isTalk
-- needs impl.isWho
-- needs strings.IndexByte
-- needs impl.isMost
theorem k64 {x : Int} (h0 : -9223372036854775808 ≤ x) (h1 : x ≤ 9223372036854775807) : wrap64 x = x := by unfold wrap64; omega
theorem sign_is (c : Int) (h0 : 0 ≤ c) (h1 : c ≤ 255) : strings_IndexByte.f (⟨#[45, 43, 33]⟩ : ByteArray) c = some (if c = 45 then 0 else if c = 43 then 1 else if c = 33 then 2 else -1) := by
  have e : ∀ n : Nat, n < 256 → strings_IndexByte.f (⟨#[45, 43, 33]⟩ : ByteArray) (n : Int) = some (if (n : Int) = 45 then 0 else if (n : Int) = 43 then 1 else if (n : Int) = 33 then 2 else -1) := by decide +kernel
  have := e c.toNat (by omega)
  rwa [Int.toNat_of_nonneg h0] at this
def whoOk (s : ByteArray) (i : Nat) : Bool := (s.extract i (i + 1)).toList == [115] || (s.extract i (i + 1)).toList == [112]
def signOk (s : ByteArray) (i : Nat) : Bool := decide (bt s ((i + 1 : Nat) : Int) = 45 ∨ bt s ((i + 1 : Nat) : Int) = 43 ∨ bt s ((i + 1 : Nat) : Int) = 33)
def talkFrom (s : ByteArray) : Nat → Nat → Bool
  | 0, _ => true
  | d + 1, i => if i < s.size then whoOk s i && (signOk s i && talkFrom s d (i + 2)) else true
def talkB (s : ByteArray) : Bool := decide (s.size % 2 = 0) && (decide (s.size ≤ 24) && talkFrom s 13 0)
theorem who_is (s : ByteArray) : spec_taWho.f s = some (s.toList == [115] || s.toList == [112]) := by
  unfold spec_taWho.f
  by_cases h : s.toList = [115]
  · rw [if_pos h, h]; rfl
  · rw [if_neg h, beq_eq_false_iff_ne.2 h, Bool.false_or]
theorem who_is2 (s : ByteArray) : impl_isWho.f s = some (s.toList == [115] || s.toList == [112]) := by
  unfold impl_isWho.f
  by_cases h : s.toList = [115]
  · rw [if_pos h, h]; rfl
  · rw [if_neg h, beq_eq_false_iff_ne.2 h, Bool.false_or]
theorem talk_ev (s : ByteArray) (hs : s.size ≤ 24) (he : s.size % 2 = 0) (d : Nat) : ∀ i : Nat, s.size ≤ i + 2 * d → i ≤ s.size → i % 2 = 0 → Ev (fun k => spec_taTalk.l0 k s (i : Int)) (talkFrom s d i) ∧ Ev (fun k => impl_isTalk.l0 k s (i : Int)) (talkFrom s d i) := by
  induction d with
  | zero =>
    intro i hd hi h2
    obtain rfl : i = s.size := by omega
    exact ⟨Ev.step (f := fun _ => some true) (fun k => by rw [spec_taTalk.l0, if_neg (by omega)]) (Ev.now _), Ev.step (f := fun _ => some true) (fun k => by rw [impl_isTalk.l0, if_neg (by omega)]) (Ev.now _)⟩
  | succ d ih =>
    intro i hd hi h2
    unfold talkFrom
    by_cases hlt : i < s.size
    · rw [if_pos hlt]
      have e1 : wrap64 ((i : Int) + 1) = ((i + 1 : Nat) : Int) := by rw [k64 (by omega) (by omega)]; rfl
      have e2 : wrap64 ((i : Int) + 2) = ((i + 2 : Nat) : Int) := by rw [k64 (by omega) (by omega)]; rfl
      obtain ⟨h1, h3⟩ := ih (i + 2) (by omega) (by omega) (by omega)
      have hb := bt_range s ((i + 1 : Nat) : Int)
      have q1 : spec_taWho.f (s.extract (i : Int).toNat ((i + 1 : Nat) : Int).toNat) = some (whoOk s i) := who_is _
      have q2 : impl_isWho.f (s.extract (i : Int).toNat ((i + 1 : Nat) : Int).toNat) = some (whoOk s i) := who_is2 _
      cases hw : whoOk s i with
      | false =>
        rw [hw] at q1 q2
        rw [Bool.false_and]
        refine ⟨Ev.step (f := fun _ => some false) (fun k => ?_) (Ev.now _), Ev.step (f := fun _ => some false) (fun k => ?_) (Ev.now _)⟩
        · rw [spec_taTalk.l0, e1, if_pos (by omega), if_pos (by omega), if_pos (by omega), if_pos (by omega), q1]; rfl
        · rw [impl_isTalk.l0, e1, if_pos (by omega), if_pos (by omega), if_pos (by omega), if_pos (by omega), q2]; rfl
      | true =>
        rw [hw] at q1 q2
        rw [Bool.true_and]
        have hv := sign_is (bt s ((i + 1 : Nat) : Int)) hb.1 hb.2
        by_cases c1 : bt s ((i + 1 : Nat) : Int) = 45 ∨ bt s ((i + 1 : Nat) : Int) = 43 ∨ bt s ((i + 1 : Nat) : Int) = 33
        · have hsg : signOk s i = true := decide_eq_true c1
          rw [hsg, Bool.true_and]
          have hn : ¬ ((if bt s ((i + 1 : Nat) : Int) = 45 then (0 : Int) else if bt s ((i + 1 : Nat) : Int) = 43 then 1 else if bt s ((i + 1 : Nat) : Int) = 33 then 2 else -1) < 0) := by
            split
            · omega
            · split
              · omega
              · rw [if_pos (by omega)]; omega
          refine ⟨Ev.step (fun k => ?_) h1, Ev.step (fun k => ?_) h3⟩
          · rw [spec_taTalk.l0, e1, e2, if_pos (by omega), if_pos (by omega), if_pos (by omega), if_pos (by omega), q1]
            simp only [Option.bind_some, if_true]
            rw [if_pos (by omega), if_pos (by omega)]
            split
            · rfl
            · split
              · rfl
              · rw [if_pos (by omega)]
          · rw [impl_isTalk.l0, e1, e2, if_pos (by omega), if_pos (by omega), if_pos (by omega), if_pos (by omega), q2]
            simp only [Option.bind_some, if_true]
            rw [if_pos (by omega), if_pos (by omega), hv]
            simp only [Option.bind_some]
            rw [if_neg hn]
        · have hsg : signOk s i = false := decide_eq_false c1
          rw [hsg, Bool.false_and]
          have hn : (if bt s ((i + 1 : Nat) : Int) = 45 then (0 : Int) else if bt s ((i + 1 : Nat) : Int) = 43 then 1 else if bt s ((i + 1 : Nat) : Int) = 33 then 2 else -1) < 0 := by
            rw [if_neg (by omega), if_neg (by omega), if_neg (by omega)]; omega
          refine ⟨Ev.step (f := fun _ => some false) (fun k => ?_) (Ev.now _), Ev.step (f := fun _ => some false) (fun k => ?_) (Ev.now _)⟩
          · rw [spec_taTalk.l0, e1, if_pos (by omega), if_pos (by omega), if_pos (by omega), if_pos (by omega), q1]
            simp only [Option.bind_some, if_true]
            rw [if_pos (by omega), if_pos (by omega), if_neg (by omega), if_neg (by omega), if_neg (by omega)]
          · rw [impl_isTalk.l0, e1, if_pos (by omega), if_pos (by omega), if_pos (by omega), if_pos (by omega), q2]
            simp only [Option.bind_some, if_true]
            rw [if_pos (by omega), if_pos (by omega), hv]
            simp only [Option.bind_some]
            rw [if_pos hn]
    · rw [if_neg hlt]
      exact ⟨Ev.step (f := fun _ => some true) (fun k => by rw [spec_taTalk.l0, if_neg (by omega)]) (Ev.now _), Ev.step (f := fun _ => some true) (fun k => by rw [impl_isTalk.l0, if_neg (by omega)]) (Ev.now _)⟩
theorem talk_is (s : ByteArray) : Ev (fun k => spec_taTalk.f k s) (talkB s) ∧ Ev (fun k => impl_isTalk.f k s) (talkB s) := by
  unfold spec_taTalk.f impl_isTalk.f talkB
  have no : Ev (fun k => spec_taTalk.j0 k s true) false ∧ Ev (fun k => impl_isTalk.j0 k s true) false :=
    ⟨Ev.step (f := fun _ => some false) (fun k => by rw [spec_taTalk.j0, if_pos rfl]) (Ev.now _), Ev.step (f := fun _ => some false) (fun k => by rw [impl_isTalk.j0, if_pos rfl]) (Ev.now _)⟩
  by_cases he : s.size % 2 = 0
  · simp only [if_neg (show ¬ ((s.size : Int) % 2 = 1) by omega), if_pos (show (s.size : Int) % 2 = 0 by omega)]
    rw [decide_eq_true he, Bool.true_and]
    by_cases hs : s.size ≤ 24
    · rw [decide_eq_false (show ¬ ((s.size : Int) > 24) by omega), decide_eq_true hs, Bool.true_and]
      obtain ⟨h1, h2⟩ := talk_ev s hs he 13 0 (by omega) (by omega) rfl
      exact ⟨Ev.step (fun k => by rw [spec_taTalk.j0, if_neg (by simp)]; rfl) h1, Ev.step (fun k => by rw [impl_isTalk.j0, if_neg (by simp)]; rfl) h2⟩
    · rw [decide_eq_true (show (s.size : Int) > 24 by omega), decide_eq_false hs, Bool.false_and]
      exact no
  · simp only [if_pos (show (s.size : Int) % 2 = 1 by omega), if_neg (show ¬ ((s.size : Int) % 2 = 0) by omega)]
    rw [decide_eq_false he, Bool.false_and]
    exact no
theorem bytes_of {s : ByteArray} {t : Array UInt8} (h : s.toList = t.toList) : s = ⟨t⟩ := by
  rw [Lib.toList_data] at h
  cases s with
  | mk d => exact congrArg ByteArray.mk (Array.toList_inj.1 h)
theorem talk_from (s : ByteArray) (d : Nat) : ∀ i : Nat, i % 2 = 0 → s.size ≤ i + 2 * d → talkFrom s d i = true → ∀ j, i ≤ j → j % 2 = 0 → j < s.size → whoOk s j = true ∧ signOk s j = true := by
  induction d with
  | zero => intro i h2 hd h j h1 h3 h4; omega
  | succ d ih =>
    intro i h2 hd h j h1 h3 h4
    unfold talkFrom at h
    rw [if_pos (by omega)] at h
    obtain ⟨q1, q2⟩ := Bool.and_eq_true_iff.1 h
    obtain ⟨q2, q3⟩ := Bool.and_eq_true_iff.1 q2
    by_cases e : j = i
    · subst e; exact ⟨q1, q2⟩
    · exact ih (i + 2) (by omega) (by omega) q3 j (by omega) h3 h4
theorem talk_ok {s : ByteArray} (h : talkB s = true) : TalkOk s := by
  unfold talkB at h
  obtain ⟨h1, h⟩ := Bool.and_eq_true_iff.1 h
  obtain ⟨h2, h⟩ := Bool.and_eq_true_iff.1 h
  have h1 := of_decide_eq_true h1
  have h2 := of_decide_eq_true h2
  refine ⟨h1, h2, fun i hi hlt => ?_⟩
  obtain ⟨q1, q2⟩ := talk_from s 13 0 rfl (by omega) h i (Nat.zero_le _) hi hlt
  refine ⟨?_, of_decide_eq_true q2⟩
  unfold sayer
  by_cases e : (s.extract i (i + 1)).toList = [115]
  · rw [e]
    exact bytes_of e
  · rw [beq_eq_false_iff_ne.2 e]
    have : (s.extract i (i + 1)).toList = [112] := by
      unfold whoOk at q1
      rw [beq_eq_false_iff_ne.2 e, Bool.false_or] at q1
      exact beq_iff_eq.1 q1
    exact bytes_of this
theorem talk_K (s : ByteArray) : ∃ K, spec_taTalk.f K s = some (talkB s) ∧ impl_isTalk.f K s = some (talkB s) := by
  obtain ⟨⟨K1, h1⟩, ⟨K2, h2⟩⟩ := talk_is s
  exact ⟨max K1 K2, h1 _ (by omega), h2 _ (by omega)⟩
def validLT (m : Int) (s : ByteArray) : Bool := decide (2 ≤ m ∧ m ≤ 40) && talkB s
def leftList (m : Int) (s : ByteArray) : List (List Int) := leftN m.toNat s (s.size / 2)
theorem leftList_ages (m : Int) (s : ByteArray) (hm : m ≤ 40) : ∀ x ∈ leftList m s, Ages x := by
  intro x hx
  exact prs_ages m.toNat m.toNat (by omega) (Nat.le_refl _) x (leftN_sub m.toNat s _ x hx)
theorem leftList_len (m : Int) (s : ByteArray) (hm : m ≤ 40) : (leftList m s).length ≤ 4000 := leftN_len m.toNat (by omega) s _
theorem validLT_of {m : Int} {s : ByteArray} (h : validLT m s = true) : (2 ≤ m ∧ m ≤ 40) ∧ talkB s = true := by
  unfold validLT at h
  obtain ⟨h1, h2⟩ := Bool.and_eq_true_iff.1 h
  exact ⟨of_decide_eq_true h1, h2⟩
theorem left_of {m : Int} {s : ByteArray} (h : validLT m s = true) (W : World) :
    Calls Try.prog 70 #[.int .i64 m, .string s] W fun e w' => ∃ A c, e = .returned (.slice A (leftList m s).length c) ∧ (leftList m s).length ≤ c ∧ Kd.C (Kd.slice 3 (Kd.int .i64)) w' A (leftList m s).length (leftList m s) ∧ Below W.heap.size W w' := by
  obtain ⟨h1, h2⟩ := validLT_of h
  have := left_calls m.toNat (by omega) s (talk_ok h2) W
  rwa [Int.toNat_of_nonneg (by omega)] at this
set_option maxHeartbeats 1600000 in
set_option maxRecDepth 100000 in
theorem PairsLeft_calls (m : Int) (s : ByteArray) (W : World) :
    Calls Try.prog 54 #[.int .i64 m, .string s] W fun e w' => if validLT m s = true then ∃ A c, e = .returned (.tuple #[.slice A (leftList m s).length c, .bool true]) ∧ (leftList m s).length ≤ c ∧ Kd.C (Kd.slice 3 (Kd.int .i64)) w' A (leftList m s).length (leftList m s) ∧ Below W.heap.size W w' else e = .returned (.tuple #[.slice none 0 0, .bool false]) ∧ Below W.heap.size W w' := by
  obtain ⟨K, h1, h2⟩ := talk_K s
  have HA := Aside0.mk (fun w => impl_isMost.calls m _ w (isMost_is m))
  have HT := Aside0.mk (fun w => impl_isTalk.calls K s _ w h2)
  by_cases c1 : 2 ≤ m ∧ m ≤ 40
  · rw [decide_eq_true c1] at HA
    cases ht : talkB s with
    | true =>
      have hv : validLT m s = true := by unfold validLT; rw [decide_eq_true c1, ht]; rfl
      have HL := Aside0.mk (left_of hv)
      rw [ht] at HT
      simp only [hv, if_true]
      clear h1 h2 c1 ht hv
      go_enter Try.func54, Try.ntmps54
      go_wp2_with (first | (go_at_call 44; (with_reducible refine (HA.out _).mono ?_); rintro e w' ⟨rfl, ⟨nd, rfl⟩⟩) | (go_at_call 40; (with_reducible refine (HT.out _).mono ?_); rintro e w' ⟨rfl, ⟨nd2, rfl⟩⟩) | (go_at_call 70; (with_reducible refine (HL.out _).mono ?_); rintro e w1 ⟨A, c, rfl, hc, hC, hb⟩; have HC := Aside0.mk hC; have HB := Aside0.mk hb; clear hC hb))
      go_ret2
      exact ⟨A, c, rfl, hc, HC.out, below_then (pw_below_drewN (Below.refl _ _) _) (by simp) HB.out⟩
    | false =>
      have hv : validLT m s = false := by unfold validLT; rw [ht, Bool.and_false]
      rw [ht] at HT
      simp only [hv, Bool.false_eq_true, if_false]
      clear h1 h2 c1 ht hv
      go_enter Try.func54, Try.ntmps54
      go_wp2_with (first | (go_at_call 44; (with_reducible refine (HA.out _).mono ?_); rintro e w' ⟨rfl, ⟨nd, rfl⟩⟩) | (go_at_call 40; (with_reducible refine (HT.out _).mono ?_); rintro e w' ⟨rfl, ⟨nd2, rfl⟩⟩))
      go_ret2
      exact ⟨rfl, pw_below_drewN (Below.refl _ _) _⟩
  · rw [decide_eq_false c1] at HA
    have hv : validLT m s = false := by unfold validLT; rw [decide_eq_false c1, Bool.false_and]
    simp only [hv, Bool.false_eq_true, if_false]
    clear h1 h2 c1 hv
    go_enter Try.func54, Try.ntmps54
    go_wp2_with (go_at_call 44; (with_reducible refine (HA.out _).mono ?_); rintro e w' ⟨rfl, ⟨nd, rfl⟩⟩)
    go_ret2
    exact ⟨rfl, pw_below_drewN (Below.refl _ _) _⟩

end Go.Proofs.Ytofkafbcbghkeaa.E
