/- Chapter 3, plain: conversions. No condition beyond those typed at each lemma. -/
import Derived.Test.YtcebaiopkeaoaaaC3Base
import Derived.Test.YtcebaiopkeaoaaaX0
import Derived.Test.YtcebaiopkeaoaaaX1
import Derived.Test.YtcebaiopkeaoaaaX10
import Derived.Test.YtcebaiopkeaoaaaX11
import Derived.Test.YtcebaiopkeaoaaaX9
namespace Go.Proofs.Ytcebaiopkeaoaaa.Pure
open Go.RowKit Go.Proofs.Ytcebaiopkeaoaaa.X Go.Proofs.YtcebaiopkeaoaaaW.PrintWords Go.Proofs.YtcebaiopkeaoaaaW.PrintLast
set_option linter.unusedVariables false
set_option linter.unusedSimpArgs false

def cv (d : S30) : D := ⟨d.f0, d.f1⟩
theorem sz_ok {l : List S30} (h : l.length ≤ 1048576) : laws_szDateS.f l 1048576 = some (1048576 - (l.length : Int)) := by
  unfold laws_szDateS.f
  rw [w64 (by omega) (by omega), if_neg (by omega)]
theorem sz_no {l : List S30} (h : ¬ l.length ≤ 1048576) (hm : l.length ≤ maxLen) : laws_szDateS.f l 1048576 = some (-1) := by
  unfold maxLen at hm
  unfold laws_szDateS.f
  rw [w64 (by omega) (by omega), if_pos (by omega)]
theorem toDateS_loop (l : List S30) (hn : l.length ≤ 9223372036854775807) (d : Nat) : ∀ (i : Nat) (xs : List D), l.length - i = d → i ≤ l.length → xs.length = l.length → (∀ j, j < i → xs[j]? = (l.map cv)[j]?) →
    Ev (fun k => laws_toDateS.l0 k l xs (i : Int)) (l.map cv) := by
  induction d with
  | zero =>
    intro i xs hd hi hx hj
    have e : xs = l.map cv := by
      apply List.ext_getElem?
      intro j
      by_cases h : j < i
      · exact hj j h
      · rw [List.getElem?_eq_none (by omega), List.getElem?_eq_none (by simp; omega)]
    subst e
    exact Ev.step (f := fun _ => some (l.map cv)) (fun k => by rw [laws_toDateS.l0, if_neg (by omega)]) (Ev.now _)
  | succ d ih =>
    intro i xs hd hi hx hj
    have hlt : i < l.length := by omega
    refine Ev.step (fun k => ?_) (ih (i + 1) (xs.set i (cv (rd_T30 l (i : Int)))) (by omega) (by omega) (by simpa using hx) ?_)
    · rw [laws_toDateS.l0, if_pos (by omega), if_pos (by omega)]
      simp only [laws_toDate.f, Option.bind_some]
      rw [if_pos (by omega), w_succ i l.length hlt hn]
      rfl
    · intro j hj'
      rw [List.getElem?_set]
      by_cases e : i = j
      · subst e
        rw [if_pos rfl, if_pos (by omega)]
        simp [rd_T30, List.getD, List.getElem?_eq_getElem hlt]
      · rw [if_neg e]
        exact hj j (by omega)
theorem ev_toDateS (l : List S30) (hn : l.length ≤ 1048576) : Ev (fun k => laws_toDateS.f k l) (l.map cv) := by
  unfold laws_toDateS.f
  simp only [if_pos (show (0 : Int) ≤ (l.length : Int) by omega), Int.toNat_natCast, if_pos (show l.length ≤ 17592186044416 by omega)]
  simpa using toDateS_loop l (by omega) l.length 0 (List.replicate l.length z33) (by omega) (by omega) (by simp) (fun j h => absurd h (by omega))
theorem eqDateS_loop (l : List D) (hn : l.length ≤ 9223372036854775807) (d : Nat) : ∀ (i : Nat), l.length - i = d → i ≤ l.length → Ev (fun k => laws_eqDateS.l0 k l l (i : Int)) true := by
  induction d with
  | zero =>
    intro i hd hi
    exact Ev.step (f := fun _ => some true) (fun k => by rw [laws_eqDateS.l0, if_neg (by omega)]) (Ev.now _)
  | succ d ih =>
    intro i hd hi
    refine Ev.step (fun k => ?_) (ih (i + 1) (by omega) (by omega))
    rw [laws_eqDateS.l0, if_pos (by omega), if_pos (by omega), if_pos (by omega)]
    simp only [laws_eqDate.f, if_true, Option.bind_some]
    rw [w_succ i l.length (by omega) hn]
theorem ev_eqDateS (l : List D) (hn : l.length ≤ 9223372036854775807) : Ev (fun k => laws_eqDateS.f k l l) true := by
  unfold laws_eqDateS.f
  simp only [if_true]
  simpa using eqDateS_loop l hn l.length 0 (by omega) (by omega)

end Go.Proofs.Ytcebaiopkeaoaaa.Pure
