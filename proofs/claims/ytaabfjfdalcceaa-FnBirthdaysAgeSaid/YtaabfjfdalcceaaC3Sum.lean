/- Chapter 3, plain: sums. No condition beyond those typed at each lemma. -/
import Derived.Test.YtaabfjfdalcceaaC3Ages
import Derived.Test.YtaabfjfdalcceaaC3Base
import Derived.Test.YtaabfjfdalcceaaE0
import Derived.Test.YtaabfjfdalcceaaE4
import Derived.Test.YtaabfjfdalcceaaE8
namespace Go.Proofs.Ytaabfjfdalcceaa.Pure
open Go.RowKit Go.Proofs.Ytaabfjfdalcceaa.E Go.Proofs.YtaabfjfdalcceaaW.PrintWords Go.Proofs.YtaabfjfdalcceaaW.PrintLast
set_option linter.unusedVariables false
set_option linter.unusedSimpArgs false

/-! ### sums -/
theorem total_loop (xs : List Int) (h8 : xs.length ≤ 8) (hx : ∀ x ∈ xs, 0 ≤ x ∧ x ≤ 10000) (d : Nat) : ∀ (i : Nat) (s : Int), xs.length - i = d → i ≤ xs.length → 0 ≤ s → s ≤ 10000 * i →
    Ev (fun k => impl_total.l0 k s xs (xs.length : Int) (i : Int)) (s + (xs.drop i).sum) := by
  induction d with
  | zero =>
    intro i s hd hi h0 h1
    rw [List.drop_of_length_le (by omega)]
    exact Ev.step (f := fun _ => some (s + 0)) (fun k => by rw [impl_total.l0, if_neg (by omega), Int.add_zero]) (Ev.now _)
  | succ d ih =>
    intro i s hd hi h0 h1
    have hlt : i < xs.length := by omega
    have e : rd xs (i : Int) = xs[i] := by simp [rd, List.getD_eq_getElem?_getD, List.getElem?_eq_getElem hlt]
    have hb := hx _ (List.getElem_mem hlt)
    have hs := ih (i + 1) (s + xs[i]) (by omega) (by omega) (by omega) (by omega)
    rw [List.drop_eq_getElem_cons hlt, List.sum_cons, ← Int.add_assoc]
    refine Ev.step (fun k => ?_) hs
    rw [impl_total.l0, if_pos (by omega), if_pos (by omega), if_pos (by omega), e, w64 (x := s + xs[i]) (by omega) (by omega), w_succ i xs.length hlt (by omega)]
theorem ev_total (xs : List Int) (h8 : xs.length ≤ 8) (hx : ∀ x ∈ xs, 0 ≤ x ∧ x ≤ 10000) : Ev (fun k => impl_total.f k xs) xs.sum := by
  unfold impl_total.f
  simpa using total_loop xs h8 hx xs.length 0 0 (by omega) (by omega) (by omega) (by omega)
theorem biSum_loop (l : List D) (on : D) (hl : l.all dateOk = true) (ho : dateOk on = true) (hd : ∀ b ∈ l, dy b ≤ dy on) (h8 : l.length ≤ 8) (d : Nat) : ∀ (i : Nat) (s : Int), l.length - i = d → i ≤ l.length → 0 ≤ s → s ≤ 10000 * i →
    Ev (fun k => spec_biSum.l0 k s l (l.length : Int) (i : Int) on.f0 on.f1) (s + ((l.drop i).map (fun b => ageD b on)).sum) := by
  induction d with
  | zero =>
    intro i s hd hi h0 h1
    rw [List.drop_of_length_le (by omega)]
    exact Ev.step (f := fun _ => some (s + 0)) (fun k => by rw [spec_biSum.l0, if_neg (by omega), Int.add_zero]) (Ev.now _)
  | succ d ih =>
    intro i s hdd hi h0 h1
    have hlt : i < l.length := by omega
    have hok := all_at l i hlt hl
    have hm : rd_T26 l (i : Int) ∈ l := by rw [rdT_at l i hlt]; exact List.getElem_mem _
    have hb := ageD_range hok ho (hd _ hm)
    have hs := ih (i + 1) (s + ageD (rd_T26 l (i : Int)) on) (by omega) (by omega) (by omega) (by omega)
    rw [drop_at l i hlt, List.map_cons, List.sum_cons, ← Int.add_assoc]
    refine Ev.step (fun k => ?_) hs
    rw [spec_biSum.l0, if_pos (by omega), if_pos (by omega), if_pos (by omega), biAge_ok hok ho]
    simp only [Option.bind_some]
    rw [w64 (x := s + ageD (rd_T26 l (i : Int)) on) (by omega) (by omega), w_succ i l.length hlt (by omega)]
theorem ev_biSum (l : List D) (on : D) (hl : l.all dateOk = true) (ho : dateOk on = true) (hd : ∀ b ∈ l, dy b ≤ dy on) (h8 : l.length ≤ 8) : Ev (fun k => spec_biSum.f k l on.f0 on.f1) (l.map fun b => ageD b on).sum := by
  unfold spec_biSum.f
  simpa using biSum_loop l on hl ho hd h8 l.length 0 0 (by omega) (by omega) (by omega) (by omega)
theorem ages_bound {l : List D} {on : D} (hl : l.all dateOk = true) (ho : dateOk on = true) (hd : ∀ b ∈ l, dy b ≤ dy on) : ∀ x ∈ l.map (fun b => ageD b on), 0 ≤ x ∧ x ≤ 10000 := by
  intro x hx
  obtain ⟨b, hb, rfl⟩ := List.mem_map.1 hx
  have := ageD_range ((List.all_eq_true.1 hl) b hb) ho (hd b hb)
  omega
def sumV (l : List D) (on : D) : Int × Bool := if bornL l on = true then ((l.map fun b => ageD b on).sum, true) else (0, false)
theorem ev_specSum (l : List D) (on : D) (hn : l.length ≤ 1048576) : Ev (fun k => spec_SumOfAgesOn.f k l on.f0 on.f1) (sumV l on) := by
  unfold spec_SumOfAgesOn.f
  refine Ev.bind (ev_biAll l on (by omega)) ?_
  unfold sumV
  cases hb : bornL l on with
  | false => simp only [Bool.false_eq_true, if_false]; exact Ev.now _
  | true =>
    simp only [if_true]
    obtain ⟨h1, h8, hl, ho, hd⟩ := born_parts hb
    exact Ev.bind (ev_biSum l on hl ho hd h8) (Ev.now _)
theorem ev_implSum (l : List D) (on : D) (hn : l.length ≤ 1048576) : Ev (fun k => impl_SumOfAgesOn.f k l on.f0 on.f1) (sumV l on) := by
  unfold impl_SumOfAgesOn.f
  refine Ev.bind (ev_implAges l on hn) ?_
  unfold sumV agesV
  cases hb : bornL l on with
  | false =>
    simp only [Bool.false_eq_true, if_false]
    exact Ev.bind (ev_total [] (by simp) (by simp)) (Ev.now _)
  | true =>
    simp only [if_true]
    obtain ⟨h1, h8, hl, ho, hd⟩ := born_parts hb
    exact Ev.bind (ev_total _ (by simpa using h8) (ages_bound hl ho hd)) (Ev.now _)


end Go.Proofs.Ytaabfjfdalcceaa.Pure
