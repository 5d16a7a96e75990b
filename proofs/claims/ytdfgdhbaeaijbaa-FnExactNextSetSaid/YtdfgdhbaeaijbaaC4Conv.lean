/- Chapter 4, plain: conversions. No condition beyond those typed at each lemma. -/
import Derived.Test.YtdfgdhbaeaijbaaC4Base
import Derived.Test.YtdfgdhbaeaijbaaX3
import Derived.Test.YtdfgdhbaeaijbaaX6
namespace Go.Proofs.Ytdfgdhbaeaijbaa.Pure
open Go.RowKit Go.Proofs.Ytdfgdhbaeaijbaa.X Go.Proofs.YtdfgdhbaeaijbaaW.PrintWords Go.Proofs.YtdfgdhbaeaijbaaW.PrintLast
set_option linter.unusedVariables false
set_option linter.unusedSimpArgs false

theorem toIntS_loop (l : List Int) (hn : l.length ≤ 9223372036854775807) (d : Nat) : ∀ (i : Nat) (xs : List Int), l.length - i = d → i ≤ l.length → xs.length = l.length → (∀ j, j < i → xs[j]? = l[j]?) →
    Ev (fun k => laws_toIntS.l0 k l xs (i : Int)) l := by
  induction d with
  | zero =>
    intro i xs hd hi hx hj
    have e : xs = l := by
      apply List.ext_getElem?
      intro j
      by_cases h : j < i
      · exact hj j h
      · rw [List.getElem?_eq_none (by omega), List.getElem?_eq_none (by omega)]
    subst e
    exact Ev.step (f := fun _ => some xs) (fun k => by rw [laws_toIntS.l0, if_neg (by omega)]) (Ev.now _)
  | succ d ih =>
    intro i xs hd hi hx hj
    have hlt : i < l.length := by omega
    refine Ev.step (fun k => ?_) (ih (i + 1) (xs.set i (rd l (i : Int))) (by omega) (by omega) (by simpa using hx) ?_)
    · rw [laws_toIntS.l0, if_pos (by omega), if_pos (by omega), if_pos (by omega), w_succ i l.length hlt hn]
      rfl
    · intro j hj'
      rw [List.getElem?_set]
      by_cases e : i = j
      · subst e
        rw [if_pos rfl, if_pos (by omega), rd_at l i hlt, List.getElem?_eq_getElem hlt]
      · rw [if_neg e]
        exact hj j (by omega)
theorem ev_toIntS (l : List Int) (hn : l.length ≤ 1048576) : Ev (fun k => laws_toIntS.f k l) l := by
  unfold laws_toIntS.f
  simp only [if_pos (show (0 : Int) ≤ (l.length : Int) by omega), Int.toNat_natCast, if_pos (show l.length ≤ 35184372088832 by omega)]
  simpa using toIntS_loop l (by omega) l.length 0 (List.replicate l.length 0) (by omega) (by omega) (by simp) (fun j h => absurd h (by omega))
theorem eqIntS_loop (l : List Int) (hn : l.length ≤ 9223372036854775807) (d : Nat) : ∀ (i : Nat), l.length - i = d → i ≤ l.length → Ev (fun k => laws_eqIntS.l0 k l l (i : Int)) true := by
  induction d with
  | zero =>
    intro i hd hi
    exact Ev.step (f := fun _ => some true) (fun k => by rw [laws_eqIntS.l0, if_neg (by omega)]) (Ev.now _)
  | succ d ih =>
    intro i hd hi
    refine Ev.step (fun k => ?_) (ih (i + 1) (by omega) (by omega))
    rw [laws_eqIntS.l0, if_pos (by omega), if_pos (by omega), if_pos (by omega)]
    simp only [if_true]
    rw [w_succ i l.length (by omega) hn]
theorem ev_eqIntS (l : List Int) (hn : l.length ≤ 9223372036854775807) : Ev (fun k => laws_eqIntS.f k l l) true := by
  unfold laws_eqIntS.f
  simp only [if_true]
  simpa using eqIntS_loop l hn l.length 0 (by omega) (by omega)

end Go.Proofs.Ytdfgdhbaeaijbaa.Pure
