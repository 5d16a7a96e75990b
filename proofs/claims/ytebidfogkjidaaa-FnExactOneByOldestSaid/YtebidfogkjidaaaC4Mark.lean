/- Chapter 4, plain: lists held equal, marks. No condition beyond those typed at each lemma. -/
import Derived.Test.YtebidfogkjidaaaE25
import Derived.Test.YtebidfogkjidaaaE6
namespace Go.Proofs.Ytebidfogkjidaaa.Pure
open Go.RowKit Go.Proofs.Ytebidfogkjidaaa.E Go.Proofs.YtebidfogkjidaaaW.PrintWords Go.Proofs.YtebidfogkjidaaaW.PrintLast
set_option linter.unusedVariables false
set_option linter.unusedSimpArgs false

theorem w64 {x : Int} (h0 : -9223372036854775808 ≤ x) (h1 : x ≤ 9223372036854775807) : wrap64 x = x := by unfold wrap64; omega
theorem w_succ (i n : Nat) (h : i < n) (hn : n ≤ 9223372036854775807) : wrap64 ((i : Int) + 1) = ((i + 1 : Nat) : Int) := by
  rw [w64 (by omega) (by omega)]; rfl
theorem eqIntS_loop (l : List Int) (hn : l.length ≤ 9223372036854775807) (d : Nat) : ∀ (i : Nat), l.length - i = d → i ≤ l.length → Ev (fun k => laws_eqIntS.l0 k l l (i : Int)) true := by
  induction d with
  | zero =>
    intro i hd hi
    exact Ev.step (f := fun _ => some true) (fun k => by rw [laws_eqIntS.l0, if_neg (by omega)]) (Ev.now _)
  | succ d ih =>
    intro i hd hi
    have hlt : i < l.length := by omega
    refine Ev.step (fun k => ?_) (ih (i + 1) (by omega) (by omega))
    rw [laws_eqIntS.l0, if_pos (by omega), if_pos (by omega), if_pos (by omega), if_pos rfl, w_succ i l.length hlt hn]
theorem ev_eqIntS (l : List Int) (hn : l.length ≤ 9223372036854775807) : Ev (fun k => laws_eqIntS.f k l l) true := by
  unfold laws_eqIntS.f
  simp only [if_true]
  exact eqIntS_loop l hn l.length 0 (by omega) (by omega)
theorem rd_set_ne (xs : List Int) (i j : Nat) (v : Int) (h : i ≠ j) : rd (xs.set i v) (j : Int) = rd xs (j : Int) := by
  simp only [rd, Int.toNat_natCast, List.getD_eq_getElem?_getD, List.getElem?_set]
  rw [if_neg h]
theorem rd_set_eq (xs : List Int) (i : Nat) (v : Int) (h : i < xs.length) : rd (xs.set i v) (i : Int) = v := by
  simp [rd, List.getD_eq_getElem?_getD, List.getElem?_set, h]
theorem markIntS_loop (n : Nat) (hn : n ≤ 1048576) (d : Nat) : ∀ (i : Nat) (xs : List Int), xs.length = n → n - i = d → i ≤ n → (∀ j : Nat, j < i → rd xs (j : Int) = 1 + j) →
    ∃ l', Ev (fun k => laws_markIntS.l0 k xs (1 + i) (i : Int)) (1 + (n : Int), l') ∧ l'.length = n ∧ ∀ j : Nat, j < n → rd l' (j : Int) = 1 + j := by
  induction d with
  | zero =>
    intro i xs hx hd hi hj
    have e : i = n := by omega
    subst e
    exact ⟨xs, Ev.step (f := fun _ => some (1 + (i : Int), xs)) (fun k => by rw [laws_markIntS.l0, if_neg (by omega)]) (Ev.now _), hx, hj⟩
  | succ d ih =>
    intro i xs hx hd hi hj
    have hlt : i < n := by omega
    have e1 : wrap64 (1 + (i : Int) + 1) = 1 + ((i + 1 : Nat) : Int) := by rw [w64 (by omega) (by omega)]; omega
    obtain ⟨l', h, hl, hr⟩ := ih (i + 1) (xs.set i (1 + (i : Int))) (by simpa using hx) (by omega) (by omega) (by
      intro j hj'
      by_cases e : i = j
      · subst e; exact rd_set_eq xs i _ (by omega)
      · rw [rd_set_ne xs i j _ e]; exact hj j (by omega))
    refine ⟨l', Ev.step (fun k => ?_) h, hl, hr⟩
    rw [laws_markIntS.l0, if_pos (by omega), if_pos (by omega)]
    simp only [Int.toNat_natCast]
    rw [e1, w_succ i n hlt (by omega)]
theorem ev_markIntS (l : List Int) (hn : l.length ≤ 1048576) : ∃ l', Ev (fun k => laws_markIntS.f k l 1) (1 + (l.length : Int), l') ∧ l'.length = l.length ∧ ∀ j : Nat, j < l.length → rd l' (j : Int) = 1 + j := by
  unfold laws_markIntS.f
  simpa using markIntS_loop l.length hn l.length 0 l rfl (by omega) (by omega) (fun j h => absurd h (by omega))
theorem heldIntS_loop (l : List Int) (hn : l.length ≤ 1048576) (hl : ∀ j : Nat, j < l.length → rd l (j : Int) = 1 + j) (d : Nat) : ∀ (i : Nat), l.length - i = d → i ≤ l.length → Ev (fun k => laws_heldIntS.l0 k l (1 + i) (i : Int)) (1 + (l.length : Int)) := by
  induction d with
  | zero =>
    intro i hd hi
    have e : i = l.length := by omega
    subst e
    exact Ev.step (f := fun _ => some (1 + (l.length : Int))) (fun k => by rw [laws_heldIntS.l0, if_neg (by omega)]) (Ev.now _)
  | succ d ih =>
    intro i hd hi
    have hlt : i < l.length := by omega
    have e1 : wrap64 (1 + (i : Int) + 1) = 1 + ((i + 1 : Nat) : Int) := by rw [w64 (by omega) (by omega)]; omega
    refine Ev.step (fun k => ?_) (ih (i + 1) (by omega) (by omega))
    rw [laws_heldIntS.l0, if_pos (by omega), if_pos (by omega), if_pos (hl i hlt), e1, w_succ i l.length hlt (by omega)]
theorem ev_heldIntS (l : List Int) (hn : l.length ≤ 1048576) (hl : ∀ j : Nat, j < l.length → rd l (j : Int) = 1 + j) : Ev (fun k => laws_heldIntS.f k l 1) (1 + (l.length : Int)) := by
  unfold laws_heldIntS.f
  simpa using heldIntS_loop l hn hl l.length 0 (by omega) (by omega)


end Go.Proofs.Ytebidfogkjidaaa.Pure
