/- Chapter 3, plain: ages. No condition beyond those typed at each lemma. -/
import Derived.Test.YtaabfjfdalcceaaC3Base
import Derived.Test.YtaabfjfdalcceaaE0
import Derived.Test.YtaabfjfdalcceaaE4
import Derived.Test.YtaabfjfdalcceaaE8
namespace Go.Proofs.Ytaabfjfdalcceaa.Pure
open Go.RowKit Go.Proofs.Ytaabfjfdalcceaa.E Go.Proofs.YtaabfjfdalcceaaW.PrintWords Go.Proofs.YtaabfjfdalcceaaW.PrintLast
set_option linter.unusedVariables false
set_option linter.unusedSimpArgs false

/-! ### ages -/
def agesV (l : List D) (on : D) : List Int × Bool := if bornL l on = true then (l.map fun b => ageD b on, true) else ([], false)
theorem specAges_loop (l : List D) (on : D) (hl : l.all dateOk = true) (ho : dateOk on = true) (h8 : l.length ≤ 8) (d : Nat) : ∀ (i : Nat) (acc : List Int), l.length - i = d → i ≤ l.length → acc.length = i →
    Ev (fun k => spec_AgesOn.l0 k acc l (l.length : Int) (i : Int) on.f0 on.f1) (acc ++ (l.drop i).map (fun b => ageD b on), true) := by
  induction d with
  | zero =>
    intro i acc hd hi ha
    rw [List.drop_of_length_le (by omega)]
    exact Ev.step (f := fun _ => some (acc ++ [], true)) (fun k => by rw [spec_AgesOn.l0, if_neg (by omega), List.append_nil]) (Ev.now _)
  | succ d ih =>
    intro i acc hd hi ha
    have hlt : i < l.length := by omega
    have hs := ih (i + 1) (acc ++ [ageD (rd_T26 l (i : Int)) on]) (by omega) (by omega) (by simp [ha])
    rw [drop_at l i hlt, List.map_cons]
    rw [List.append_assoc, List.singleton_append] at hs
    refine Ev.step (fun k => ?_) hs
    rw [spec_AgesOn.l0, if_pos (by omega), if_pos (by omega), if_pos (by omega), biAge_ok (all_at l i hlt hl) ho]
    simp only [Option.bind_some]
    rw [if_pos (by omega), w_succ i l.length hlt (by omega)]
theorem ev_specAges (l : List D) (on : D) (hn : l.length ≤ 1048576) : Ev (fun k => spec_AgesOn.f k l on.f0 on.f1) (agesV l on) := by
  unfold spec_AgesOn.f
  refine Ev.bind (ev_biAll l on (by omega)) ?_
  unfold agesV
  cases hb : bornL l on with
  | false => simp only [Bool.false_eq_true, if_false]; exact Ev.now _
  | true =>
    simp only [if_true]
    obtain ⟨h1, h8, hl, ho, hd⟩ := born_parts hb
    simpa using specAges_loop l on hl ho h8 l.length 0 [] (by omega) (by omega) rfl
theorem agesOn_loop (l : List D) (n : Int) (hl : l.all dateOk = true) (hd : ∀ b ∈ l, dy b ≤ n) (h1 : n ≤ 1095365) (h8 : l.length ≤ 8) (d : Nat) : ∀ (i : Nat) (acc : List Int), l.length - i = d → i ≤ l.length → acc.length = i →
    Ev (fun k => impl_agesOn.l0 k n acc l (l.length : Int) (i : Int)) (acc ++ (l.drop i).map (fun b => (n - dy b) / 365)) := by
  induction d with
  | zero =>
    intro i acc hd hi ha
    rw [List.drop_of_length_le (by omega)]
    exact Ev.step (f := fun _ => some (acc ++ [])) (fun k => by rw [impl_agesOn.l0, if_neg (by omega), List.append_nil]) (Ev.now _)
  | succ d ih =>
    intro i acc hdd hi ha
    have hlt : i < l.length := by omega
    have hs := ih (i + 1) (acc ++ [(n - dy (rd_T26 l (i : Int))) / 365]) (by omega) (by omega) (by simp [ha])
    have hm : rd_T26 l (i : Int) ∈ l := by rw [rdT_at l i hlt]; exact List.getElem_mem _
    rw [drop_at l i hlt, List.map_cons]
    rw [List.append_assoc, List.singleton_append] at hs
    refine Ev.step (fun k => ?_) hs
    rw [impl_agesOn.l0, if_pos (by omega), if_pos (by omega), if_pos (by omega), age_ok (all_at l i hlt hl) (hd _ hm) h1]
    simp only [Option.bind_some]
    rw [if_pos (by omega), w_succ i l.length hlt (by omega)]
theorem ev_agesOn (l : List D) (n : Int) (hl : l.all dateOk = true) (hd : ∀ b ∈ l, dy b ≤ n) (h1 : n ≤ 1095365) (h8 : l.length ≤ 8) : Ev (fun k => impl_agesOn.f k l n) (l.map fun b => (n - dy b) / 365) := by
  unfold impl_agesOn.f
  simpa using agesOn_loop l n hl hd h1 h8 l.length 0 [] (by omega) (by omega) rfl
theorem ages_eq {l : List D} {on : D} (hl : l.all dateOk = true) (ho : dateOk on = true) (hd : ∀ b ∈ l, dy b ≤ dy on) : (l.map fun b => (dy on - dy b) / 365) = l.map fun b => ageD b on :=
  List.map_congr_left fun b hb => age_days ((List.all_eq_true.1 hl) b hb) ho (hd b hb)
theorem ev_implAges (l : List D) (on : D) (hn : l.length ≤ 1048576) : Ev (fun k => impl_AgesOn.f k l on.f0 on.f1) (agesV l on) := by
  unfold impl_AgesOn.f
  refine Ev.bind (ev_areBorn l on (by omega)) ?_
  unfold agesV
  cases hb : bornL l on with
  | false => simp only [Bool.false_eq_true, if_false]; exact Ev.now _
  | true =>
    simp only [if_true]
    obtain ⟨h1, h8, hl, ho, hd⟩ := born_parts hb
    rw [index_ok ho]
    simp only [Option.bind_some]
    refine Ev.bind (ev_agesOn l (dy on) hl hd (by have := dy_range ho; omega) h8) ?_
    rw [ages_eq hl ho hd]
    exact Ev.now _

end Go.Proofs.Ytaabfjfdalcceaa.Pure
