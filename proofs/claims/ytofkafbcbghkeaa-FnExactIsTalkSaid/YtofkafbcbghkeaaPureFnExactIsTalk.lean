/- The program's IsTalk returns what the reference's returns, for all arguments. No condition. -/
import Derived.Test.YtofkafbcbghkeaaX1
import Derived.Test.YtofkafbcbghkeaaX2
import Derived.Test.YtofkafbcbghkeaaX3
namespace Go.Proofs.Ytofkafbcbghkeaa.Pure
open Go.RowKit Go.Proofs.Ytofkafbcbghkeaa.X Go.Proofs.YtofkafbcbghkeaaW.PrintWords Go.Proofs.YtofkafbcbghkeaaW.PrintLast
set_option linter.unusedVariables false
set_option linter.unusedSimpArgs false

theorem w64 {x : Int} (h0 : -9223372036854775808 ≤ x) (h1 : x ≤ 9223372036854775807) : wrap64 x = x := by unfold wrap64; omega
theorem sign_val (c : Int) (h0 : 0 ≤ c) (h1 : c ≤ 255) : strings_IndexByte.f (⟨#[45, 43, 33]⟩ : ByteArray) c = some (if c = 45 then 0 else if c = 43 then 1 else if c = 33 then 2 else -1) := by
  have e : ∀ n : Nat, n < 256 → strings_IndexByte.f (⟨#[45, 43, 33]⟩ : ByteArray) (n : Int) = some (if (n : Int) = 45 then 0 else if (n : Int) = 43 then 1 else if (n : Int) = 33 then 2 else -1) := by decide +kernel
  have := e c.toNat (by omega)
  rwa [Int.toNat_of_nonneg h0] at this
theorem who_same (s : ByteArray) : impl_isWho.f s = spec_taWho.f s := rfl
theorem talk_loop (s : ByteArray) (hs : s.size ≤ 24) (he : s.size % 2 = 0) (d : Nat) : ∀ i : Nat, s.size - i = d → i ≤ s.size → i % 2 = 0 → ∃ b, Ev (fun k => spec_taTalk.l0 k s (i : Int)) b ∧ Ev (fun k => impl_isTalk.l0 k s (i : Int)) b := by
  induction d using Nat.strongRecOn with
  | _ d ih =>
  intro i hd hi h2
  by_cases hlt : i < s.size
  · have e1 : wrap64 ((i : Int) + 1) = ((i + 1 : Nat) : Int) := by rw [w64 (by omega) (by omega)]; rfl
    have e2 : wrap64 ((i : Int) + 2) = ((i + 2 : Nat) : Int) := by rw [w64 (by omega) (by omega)]; rfl
    obtain ⟨r, h1, h3⟩ := ih (s.size - (i + 2)) (by omega) (i + 2) rfl (by omega) (by omega)
    have hb := bt_range s ((i + 1 : Nat) : Int)
    obtain ⟨q, hq⟩ : ∃ q, spec_taWho.f (s.extract (i : Int).toNat ((i + 1 : Nat) : Int).toNat) = some q := by
      unfold spec_taWho.f
      split <;> exact ⟨_, rfl⟩
    have hq' : impl_isWho.f (s.extract (i : Int).toNat ((i + 1 : Nat) : Int).toNat) = some q := hq
    cases q with
    | false =>
      refine ⟨false, Ev.step (f := fun _ => some false) (fun k => ?_) (Ev.now _), Ev.step (f := fun _ => some false) (fun k => ?_) (Ev.now _)⟩
      · rw [spec_taTalk.l0, e1, if_pos (by omega), if_pos (by omega), if_pos (by omega), if_pos (by omega), hq]; rfl
      · rw [impl_isTalk.l0, e1, if_pos (by omega), if_pos (by omega), if_pos (by omega), if_pos (by omega), hq']; rfl
    | true =>
      have hv := sign_val (bt s ((i + 1 : Nat) : Int)) hb.1 hb.2
      by_cases c1 : bt s ((i + 1 : Nat) : Int) = 45 ∨ bt s ((i + 1 : Nat) : Int) = 43 ∨ bt s ((i + 1 : Nat) : Int) = 33
      · have hn : ¬ ((if bt s ((i + 1 : Nat) : Int) = 45 then (0 : Int) else if bt s ((i + 1 : Nat) : Int) = 43 then 1 else if bt s ((i + 1 : Nat) : Int) = 33 then 2 else -1) < 0) := by
          split
          · omega
          · split
            · omega
            · rw [if_pos (by omega)]; omega
        refine ⟨r, Ev.step (fun k => ?_) h1, Ev.step (fun k => ?_) h3⟩
        · rw [spec_taTalk.l0, e1, e2, if_pos (by omega), if_pos (by omega), if_pos (by omega), if_pos (by omega), hq]
          simp only [Option.bind_some, if_true]
          rw [if_pos (by omega), if_pos (by omega)]
          split
          · rfl
          · split
            · rfl
            · rw [if_pos (by omega)]
        · rw [impl_isTalk.l0, e1, e2, if_pos (by omega), if_pos (by omega), if_pos (by omega), if_pos (by omega), hq']
          simp only [Option.bind_some, if_true]
          rw [if_pos (by omega), if_pos (by omega), hv]
          simp only [Option.bind_some]
          rw [if_neg hn]
      · have hn : (if bt s ((i + 1 : Nat) : Int) = 45 then (0 : Int) else if bt s ((i + 1 : Nat) : Int) = 43 then 1 else if bt s ((i + 1 : Nat) : Int) = 33 then 2 else -1) < 0 := by
          rw [if_neg (by omega), if_neg (by omega), if_neg (by omega)]; omega
        refine ⟨false, Ev.step (f := fun _ => some false) (fun k => ?_) (Ev.now _), Ev.step (f := fun _ => some false) (fun k => ?_) (Ev.now _)⟩
        · rw [spec_taTalk.l0, e1, if_pos (by omega), if_pos (by omega), if_pos (by omega), if_pos (by omega), hq]
          simp only [Option.bind_some, if_true]
          rw [if_pos (by omega), if_pos (by omega), if_neg (by omega), if_neg (by omega), if_neg (by omega)]
        · rw [impl_isTalk.l0, e1, if_pos (by omega), if_pos (by omega), if_pos (by omega), if_pos (by omega), hq']
          simp only [Option.bind_some, if_true]
          rw [if_pos (by omega), if_pos (by omega), hv]
          simp only [Option.bind_some]
          rw [if_pos hn]
  · refine ⟨true, Ev.step (f := fun _ => some true) (fun k => by rw [spec_taTalk.l0, if_neg (by omega)]) (Ev.now _), Ev.step (f := fun _ => some true) (fun k => by rw [impl_isTalk.l0, if_neg (by omega)]) (Ev.now _)⟩
theorem ev_isTalk (s : ByteArray) : ∃ b, Ev (fun k => spec_taTalk.f k s) b ∧ Ev (fun k => impl_isTalk.f k s) b := by
  unfold spec_taTalk.f impl_isTalk.f
  have no : Ev (fun k => spec_taTalk.j0 k s true) false ∧ Ev (fun k => impl_isTalk.j0 k s true) false :=
    ⟨Ev.step (f := fun _ => some false) (fun k => by rw [spec_taTalk.j0, if_pos rfl]) (Ev.now _), Ev.step (f := fun _ => some false) (fun k => by rw [impl_isTalk.j0, if_pos rfl]) (Ev.now _)⟩
  by_cases he : s.size % 2 = 0
  · simp only [if_neg (show ¬ ((s.size : Int) % 2 = 1) by omega), if_pos (show (s.size : Int) % 2 = 0 by omega)]
    by_cases hs : s.size ≤ 24
    · rw [decide_eq_false (show ¬ ((s.size : Int) > 24) by omega)]
      obtain ⟨b, h1, h2⟩ := talk_loop s hs he s.size 0 (by omega) (by omega) rfl
      exact ⟨b, Ev.step (fun k => by rw [spec_taTalk.j0, if_neg (by simp)]; rfl) h1, Ev.step (fun k => by rw [impl_isTalk.j0, if_neg (by simp)]; rfl) h2⟩
    · rw [decide_eq_true (show (s.size : Int) > 24 by omega)]
      exact ⟨false, no⟩
  · simp only [if_pos (show (s.size : Int) % 2 = 1 by omega), if_neg (show ¬ ((s.size : Int) % 2 = 0) by omega)]
    exact ⟨false, no⟩
theorem FnExactIsTalk : laws_FnExactIsTalk.Pure := by
  intro s hs
  refine Ev.rounds ?_
  unfold laws_FnExactIsTalk.f
  by_cases h : (s.size : Int) > 1048576
  · simp only [if_pos h]; exact Ev.now _
  · simp only [if_neg h]
    obtain ⟨b, h1, h2⟩ := ev_isTalk s
    refine Ev.bind (a := b) (by unfold spec_IsTalk.f; exact Ev.bind h1 (Ev.now _)) ?_
    refine Ev.bind (a := b) (by unfold impl_IsTalk.f; exact Ev.bind h2 (Ev.now _)) ?_
    simp only [bne_self_eq_false, Bool.false_eq_true, if_false]
    exact Ev.now _

end Go.Proofs.Ytofkafbcbghkeaa.Pure
